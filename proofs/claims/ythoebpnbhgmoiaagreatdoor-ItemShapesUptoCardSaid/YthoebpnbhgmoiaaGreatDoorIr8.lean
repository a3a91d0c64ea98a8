import Derived.Test.YthoebpnbhgmoiaaGreatDoorIr5
import Derived.Test.YthoebpnbhgmoiaaGreatDoorEval8
set_option linter.unusedVariables false
set_option linter.unusedSimpArgs false
set_option linter.unusedSectionVars false
open Int renaming ofNat_lt→JH
open List renaming take_left→JI,take_length→JJ,drop_eq_getElem_cons→JK,getElem?_eq_getElem→JL,drop_eq_nil_of_le→JM,getElem_mem→JO
open Nat renaming reduceEqDiff→JP,reduceLT→JQ,reduceBEq→JR,reduceAdd→JS,reduceLeDiff→JT
namespace Go.Proofs.YthoebpnbhgmoiaaGreatDoor
open Go.RowKit
theorem rg(op:Int)(a b:Ex)(σ:List (List V)):Fun G 121 [.d (ah op),vex a,vex b] σ (aO (vex (.mk op 0 ⟨#[]⟩ [a,b])) σ):=by
 refine ao Tryz.func121 Hz (by simp only[am];rfl) fun hb hw=>?_;delta F2 oM oV kI kS kT kF;simp -dsimp -implicitDefEqProofs only[aw,aj,V.copy,V.cells,V.boxable,over,bc,aC,aF,V.plain,JT,eq_self,reduceIte,reduceCtorEq,JR,JQ,JP,JS,am];exact ac (v:=vex (.mk op 0 ⟨#[]⟩ [a,b])) hb (by rw[am];simp[CM,cG,cS,Ex.op,Ex.num,Ex.name,Ex.args,aT,aw,V.copy,V.lend,V.lend1,eq_self,reduceIte,JS]) (by rw[am];rfl) JI ⟨by rw[am],rfl⟩
theorem ll(n:Int)(σ:List (List V)):Fun G 82 [.d (ah n)] σ (aO (vex (aU n)) σ):=by
 refine ao Tryz.func82 k82 rfl fun hb hw=>?_;delta c82 oM oV kI kS kT kF;simp -dsimp -implicitDefEqProofs only[aw,aj,V.copy,V.cells,V.boxable,over,bc,JT,eq_self,reduceIte,reduceCtorEq,JR,JQ,JP,JS];exact ac (v:=vex (aU n)) hb (by rw[am];simp[Fx,cG,cS,aU,Ex.op,Ex.num,Ex.name,Ex.args,aw,V.copy,V.lend,V.lend1,eq_self,reduceIte,JS]) (by rw[am];rfl) JI ⟨rfl,rfl⟩
theorem Ah{α:Type}[DecidableEq α](l m:List α){j:Nat}(h1:j<l.length)(h2:j<m.length):decide (l.drop j=m.drop j)=(decide (l[j]=m[j])&&decide (l.drop (j+1)=m.drop (j+1))):=by
 rw[JK h1,JK h2,Bool.eq_iff_iff];simp only[decide_eq_true_eq,Bool.and_eq_true,List.cons.injEq]
theorem sV(l m:List ByteArray)(hl:l.length≤1000000)(hm:m.length≤1000000)(σ:List (List V)):Fun G 28 [.d (aQ l),.d (aQ m)] σ (aO (az (decide (l=m))) σ):=by
 refine ao Tryz.func28 k28 rfl fun hb hw=>?_;delta c28 oM oV kI kS kT kF;by_cases hlen:l.length=m.length
 case neg=>
  have hne:¬l=m:=fun e=>hlen (by rw[e]);have hlen':¬((l.length:Nat):Int)=((m.length:Nat):Int):=by omega
  rw[decide_eq_false hne];simp -dsimp -implicitDefEqProofs only[aw,aj,V.copy,eq_self,reduceIte,reduceCtorEq,JR,JQ,JP,aQ,decide_eq_false hlen'];first|exact ac hb rfl rfl JJ ⟨rfl,rfl⟩|exact ac hb rfl rfl JI ⟨rfl,rfl⟩
 have hlen':((l.length:Nat):Int)=((m.length:Nat):Int):=by omega
 simp -dsimp -implicitDefEqProofs only[aw,aj,V.copy,eq_self,reduceIte,reduceCtorEq,JR,JQ,JP,aQ,decide_eq_true hlen'];refine bC (R:=fun(j:Nat) ρ σ'=>ρ=[(0,.d (.sl (l.map fun s=>[al s]))),(1,.d (.sl (m.map fun s=>[al s]))),(5,aL .i64 j)]∧σ'=σ∧decide (l=m)=decide (l.drop j=m.drop j)) l.length ⟨rfl,rfl,rfl⟩ ?_ _;rintro j ρ' σ' hj ⟨rfl,rfl,hr⟩;by_cases hlt:j<l.length
 ·have hlt2:j<m.length:=by omega
  rw[Ah l m hlt hlt2]at hr;have hxx:l[j]? = some l[j]:=JL hlt;have hyy:m[j]? = some m[j]:=JL hlt2;generalize l[j]=a at hr hxx;generalize m[j]=b at hr hyy;have wj:=aH hlt (show l.length≤9223372036854775807 by omega);by_cases e:a=b
  ·rw[decide_eq_true e,Bool.true_and]at hr;simp -dsimp -implicitDefEqProofs only[aw,V.copy,JT,eq_self,reduceIte,reduceCtorEq,JR,JQ,JP,JH,hlt,decide_true,hxx,hyy,decide_eq_true e,wj];exact Nxt.same (Nat.le_refl _) hb (by simp[aq,V.under]) ⟨rfl,rfl,hr⟩
  ·rw[decide_eq_false e,Bool.false_and]at hr;rw[hr];simp -dsimp -implicitDefEqProofs only[aw,V.copy,JT,eq_self,reduceIte,reduceCtorEq,JR,JQ,JP,JH,hlt,decide_true,hxx,hyy,decide_eq_false e];first|exact ac hb rfl rfl JJ ⟨rfl,rfl⟩|exact ac hb rfl rfl JI ⟨rfl,rfl⟩
 ·rw[JM (by omega),JM (by omega),decide_eq_true rfl]at hr;rw[hr];simp -dsimp -implicitDefEqProofs only[aw,V.copy,eq_self,reduceIte,reduceCtorEq,JR,JQ,JP,JH,hlt,decide_false];first|exact ac hb rfl rfl JJ ⟨rfl,rfl⟩|exact ac hb rfl rfl JI ⟨rfl,rfl⟩
theorem jN(a:ByteArray)(k:Nat)(hk:k<8)(ha:a.size≤1000)(σ:List (List V)):Fun G 92 [.d (al a),.d (ah k)] σ (aO (vex (elE a k)) σ):=by
 refine ao Tryz.func92 k92 rfl fun hb hw=>?_;delta c92 oM oV kI kS kT kF;simp -dsimp -implicitDefEqProofs only[aw,aj,V.copy,V.lend,eq_self,reduceIte,reduceCtorEq,JR,JQ,JP];refine ae (gF a ha k hk _) ?_;simp -dsimp -implicitDefEqProofs only[aw,V.copy,V.cells,V.boxable,over,bc,JT,eq_self,reduceIte,reduceCtorEq,JR,JQ,JP,JS];exact ac (v:=vex (elE a k)) hb (by rw[am];simp[Gk,cG,cS,elE,Ex.op,Ex.num,Ex.name,Ex.args,aw,V.copy,V.lend,V.lend1,eq_self,reduceIte,JS]) (by rw[am];rfl) JI ⟨rfl,rfl⟩
theorem zL(a:ByteArray)(ha:a.size≤1000):∀(m:Nat),m<8→∀σ,Fun G 91 [.d (al a),.d (ah ((m+1:Nat):Int))] σ (aO (vex (eH a m)) σ):=by
 intro m
 induction m with
 | zero=>
  intro _ σ;have h1:(((0+1:Nat):Int))=1:=rfl;have he:=fun σ=>jN a 0 (by omega) ha σ;have vel:vex (elE a 0)=.agg [.d (ah 2),.d (ah 0),.d (al (aB a 0)),.d (.sl [])]:=by rw[am];rfl
  rw[vel]at he;rw[h1,show eH a 0=elE a 0 from rfl,vel];refine ao Tryz.func91 k91 rfl fun hb hw=>?_;delta c91 oM oV kI kS kT kF;simp -dsimp -implicitDefEqProofs only[aw,aj,V.copy,V.lend,eq_self,reduceIte,reduceCtorEq,JR,JQ,JP,decide_true];refine ae (he _) ?_;simp -dsimp -implicitDefEqProofs only[aw,V.copy,V.cells,V.boxable,over,JT,eq_self,reduceIte,reduceCtorEq,JR,JQ,JP,JS];exact ac (v:=.agg [.d (ah 2),.d (ah 0),.d (al (aB a 0)),.d (.sl [])]) hb (by simp[C7,cG,cS,aw,V.copy,V.lend,V.lend1,eq_self,reduceIte,JS]) rfl JI ⟨rfl,rfl⟩
 | succ m ih=>
  intro hm σ;refine ao Tryz.func91 k91 rfl fun hb hw=>?_;delta c91 oM oV kI kS kT kF;have h1:¬(((m+1+1:Nat):Int))=1:=by omega
  have w1:IntKind.i64.wrap (((m+1+1:Nat):Int)-1)=((m+1:Nat):Int):=by rw[wrap_i64 (by omega) (by omega)];omega
  have he:=fun σ=>jN a (m+1) hm ha σ;have hi:=fun σ=>ih (by omega) σ;have hnd:=fun σ=>rg 7 (eH a m) (elE a (m+1)) σ;have hsx:eH a (m+1)=.mk 7 0 ⟨#[]⟩ [eH a m,elE a (m+1)]:=rfl;rw[←hsx]at hnd;generalize eH a (m+1)=S at hnd ⊢;generalize eH a m=P at hi hnd;generalize elE a (m+1)=E at he hnd;simp only[am]at he hi hnd;simp -dsimp -implicitDefEqProofs only[aw,aj,V.copy,V.lend,eq_self,reduceIte,reduceCtorEq,JR,JQ,JP,decide_eq_false h1,w1];refine ae (hi _) ?_;simp -dsimp -implicitDefEqProofs only[aw,V.copy,V.lend,eq_self,reduceIte,reduceCtorEq,JQ,JP,w1];refine ae (he _) ?_;simp -dsimp -implicitDefEqProofs only[aw,V.lend,V.lend1,eq_self,reduceIte,reduceCtorEq,JQ,JP];refine ae (hnd _) ?_
  simp -dsimp -implicitDefEqProofs only[aw,V.copy,V.cells,V.boxable,over,JT,eq_self,reduceIte,reduceCtorEq,JR,JQ,JP,JS];rw[am];exact ac (v:=.agg [.d (ah S.op),.d (ah S.num),.d (al S.name),.d (.sl (S.args.map dex))]) hb (by simp[C7,cG,cS,aw,V.copy,V.lend,V.lend1,eq_self,reduceIte,JS]) rfl JI ⟨rfl,rfl⟩
theorem qG(a:ByteArray)(ha:a.size≤1000)(n:Nat)(hn:n≤8)(ix:Ex):∀(m:Nat),m≤n→∀σ,Fun G 93 [.d (al a),.d (ah n),vex ix,.d (ah ((n-m:Nat):Int))] σ (aO (vex (chX a n ix m)) σ):=by
 intro m
 induction m with
 | zero=>
  intro _ σ;refine ao Tryz.func93 k93 (by simp only[am];rfl) fun hb hw=>?_;delta c93 oM oV kI kS kT kF;have hc:=fun σ=>ll 0 σ;have hx:chX a n ix 0=aU 0:=rfl;rw[hx];generalize aU 0=C at hc ⊢;simp only[am]at hc;simp -dsimp -implicitDefEqProofs only[aw,aj,V.copy,V.lend,V.cells,V.boxable,eq_self,reduceIte,reduceCtorEq,JR,JQ,JP,JS,am,Nat.sub_zero,decide_true];refine ae (hc _) ?_;simp -dsimp -implicitDefEqProofs only[aw,V.copy,V.cells,V.boxable,over,JT,eq_self,reduceIte,reduceCtorEq,JR,JQ,JP,JS];exact ac (v:=.agg [.d (ah C.op),.d (ah C.num),.d (al C.name),.d (.sl (C.args.map dex))]) hb (by simp[En,cG,cS,aw,V.copy,V.lend,V.lend1,eq_self,reduceIte,JS]) rfl JI ⟨by rw[am],rfl⟩
 | succ m ih=>
  intro hm σ;refine ao Tryz.func93 k93 (by simp only[am];rfl) fun hb hw=>?_;delta c93 oM oV kI kS kT kF;have h1:¬(((n-(m+1):Nat):Int))=(n:Int):=by omega
  have w1:IntKind.i64.wrap (((n-(m+1):Nat):Int)+1)=((n-m:Nat):Int):=by rw[wrap_i64 (by omega) (by omega)];omega
  have he:=fun σ=>jN a (n-(m+1)) (by omega) ha σ;have hc:=fun σ=>ll ((n-(m+1):Nat):Int) σ;have hnd:=fun σ=>rg 15 ix (aU ((n-(m+1):Nat):Int)) σ;have hi:=fun σ=>ih (by omega) σ;have hx:chX a n ix (m+1)=.mk 22 0 ⟨#[]⟩ [.mk 15 0 ⟨#[]⟩ [ix,aU ((n-(m+1):Nat):Int)],elE a (n-(m+1)),chX a n ix m]:=rfl;rw[hx];generalize (Ex.mk 15 0 ⟨#[]⟩ [ix,aU ((n-(m+1):Nat):Int)])=N at hnd ⊢;generalize aU ((n-(m+1):Nat):Int)=C at hc hnd;generalize elE a (n-(m+1))=E at he ⊢;generalize chX a n ix m=X at hi ⊢;generalize n-(m+1)=k at h1 w1 he hc ⊢;simp only[am]at he hc hnd hi;simp -dsimp -implicitDefEqProofs only[aw,aj,V.copy,V.lend,V.cells,V.boxable,JT,eq_self,reduceIte,reduceCtorEq,JR,JQ,JP,JS,am,decide_eq_false h1];refine aZ (hc _) ?_
  simp -dsimp -implicitDefEqProofs only[aw,V.lend,V.lend1,eq_self,reduceIte,reduceCtorEq,JQ,JP];refine aZ (hnd _) ?_;simp -dsimp -implicitDefEqProofs only[aw,V.copy,V.lend,eq_self,reduceIte,reduceCtorEq,JQ,JP];refine aZ (he _) ?_;simp -dsimp -implicitDefEqProofs only[aw,V.copy,V.lend,V.lend1,JT,eq_self,reduceIte,reduceCtorEq,JQ,JP,JS,w1];refine aZ (hi _) ?_;simp -dsimp -implicitDefEqProofs only[aw,V.copy,V.cells,V.boxable,over,bc,aC,aF,V.plain,JT,eq_self,reduceIte,reduceCtorEq,JR,JQ,JP,JS]
  exact ac (v:=.agg [.d (ah 22),.d (ah 0),.d (al ⟨#[]⟩),.d (.sl [dex N,dex E,dex X])]) hb (by simp[En,cG,cS,aT,aw,V.copy,V.lend,V.lend1,eq_self,reduceIte,JS]) rfl JI ⟨by rw[am];rfl,rfl⟩
theorem sd(fs:List (ByteArray×Int))(e:Ex):rwE fs e=if e.op=24 then 2*bZ fs e.name-1 else min ((if e.op=3 then(if lA e.args=true then 0 else bZ fs e.name*(rwL fs e.args 0+4))else rwL fs e.args 0)+1) 100000:=by cases e;rw[rwE];rfl
theorem DF(fs:List (ByteArray×Int))(hf:∀s,bJ fs s≤8)(e:Ex):rwE fs e≤100000:=by
 rw[sd];split
 ·have:=hf e.name;unfold bZ;unfold bJ at this;omega
 ·omega
theorem yi(fs:List (ByteArray×Int))(l:List Ex)(s:Nat)(hs:100000≤s):rwL fs l s=s:=by
 cases l with
 | nil=>rfl
 | cons a r=>rw[rwL,if_neg (by omega)]
theorem rr(M B:Nat):min (M:Int) (B:Int)=((min M B:Nat):Int):=by
 by_cases h:M≤B
 ·rw[Nat.min_eq_left h,Int.min_eq_left (by omega)]
 ·rw[Nat.min_eq_right (by omega),Int.min_eq_right (by omega)]
set_option maxHeartbeats 4000000 in
theorem qJ(c:Cl)(hc:c.fields.length≤1000000)(hf:∀s,bJ (au c) s≤8)(e:Ex):SOk (au c) e→aA e≤1000000→∀σ,Fun G 52 [vex e,vcl c] σ (aO (.d (ah (rwE (au c) e:Nat))) σ):=by
 induction e using Ex.ind3 with
 | h e ih=>
 intro hs hsz σ;have he:=ip e;have hln:=hZ e.args;have hs':=hs;rw[lj]at hs';refine ao Tryz.func52 k52 (by simp only[am];rfl) fun hb hw=>?_;delta c52 oM oV kI kS kT kF;have hfi:(fsz (au c) e.name).getD 0=bJ (au c) e.name:=rfl;simp -dsimp -implicitDefEqProofs only[aw,aj,V.copy,V.lend,V.lend1,V.cells,V.boxable,JT,eq_self,reduceIte,reduceCtorEq,JR,JQ,JP,JS,am];refine ae (eR c e.name hc _) ?_;by_cases o24:e.op=24
 ·obtain⟨g1,g2,-⟩:=hs'.1 (.inr o24);have hn:=db (au c) g1;have w1:IntKind.i64.wrap (2*bJ (au c) e.name)=2*bJ (au c) e.name:=wrap_i64 (by omega) (by omega);have w2:IntKind.i64.wrap (2*bJ (au c) e.name-1)=((2*bZ (au c) e.name-1:Nat):Int):=by rw[wrap_i64 (by omega) (by omega)];omega
  have hres:rwE (au c) e=2*bZ (au c) e.name-1:=by rw[sd,if_pos o24]
  rw[hres];simp -dsimp -implicitDefEqProofs only[aw,V.copy,JT,eq_self,reduceIte,JR,JQ,JP,JS,hfi,o24,decide_true,w1,w2];first|exact ac hb rfl rfl JJ ⟨rfl,rfl⟩|exact ac hb rfl rfl JI ⟨rfl,rfl⟩
 simp -dsimp -implicitDefEqProofs only[aw,V.copy,JT,eq_self,reduceIte,JR,JQ,JP,JS,hfi,decide_eq_false o24]
 refine bC (R:=fun(j:Nat) ρ σ'=>∃s:Nat,s≤200000∧rwL (au c) e.args 0=rwL (au c) (e.args.drop j) s∧ρ=[(2,.ptr σ.length 0),(3,.ptr (σ.length+1) 0),(5,.d (ah (bJ (au c) e.name))),(7,aL .i64 s),(8,aL .i64 j)]∧
  σ'=σ++[[.d (ah e.op),.d (ah e.num),.d (al e.name),.d (.sl (e.args.map dex))],em c]) e.args.length ⟨0,by omega,rfl,rfl,rfl⟩ ?_ _
 rintro j ρ' σ' hj ⟨s,hs2,hr,rfl,rfl⟩
 have wrest:¬(j<e.args.length∧s<100000)→rwL (au c) e.args 0=s:=fun h=>by
  rw[hr];by_cases h1:j<e.args.length
  ·exact yi _ _ _ (by have:¬s<100000:=fun h2=>h ⟨h1,h2⟩;omega)
  ·rw[JM (by omega)];rfl
 by_cases hgo:j<e.args.length∧s<100000
 ·obtain⟨hlt,hlt2⟩:=hgo;have hlt2':((s:Nat):Int)<100000:=by omega
  have hel:=gp (JO hlt);have hxx:e.args[j]? = some e.args[j]:=JL hlt;rw[JK hlt,rwL,if_pos hlt2]at hr;have hcl:=fun σ=>ih e.args[j] (JO hlt) ((ci (au c)).1 hs'.2.2.2.2.2 _ (JO hlt)) (by omega) σ;simp only[am]at hcl;generalize e.args[j]=a at hr hxx hcl hel;have hwa:=DF (au c) hf a;have w1:IntKind.i64.wrap ((s:Int)+(rwE (au c) a:Nat))=((s+rwE (au c) a:Nat):Int):=by rw[wrap_i64 (by omega) (by omega)];omega
  have wj:=aH hlt (show e.args.length≤9223372036854775807 by omega);simp -dsimp -implicitDefEqProofs only[aw,V.copy,V.lend,V.lend1,JT,cond_true,eq_self,reduceIte,JR,JQ,JP,JS,JH,hlt,decide_true,decide_eq_true hlt2',hxx,aT a];refine aZ (hcl _) ?_;simp -dsimp -implicitDefEqProofs only[aw,V.copy,eq_self,reduceIte,JR,JQ,JP,w1,wj];exact⟨hlt,Nxt.same (by simp) (an hb rfl) (by simp[aq,V.under]) ⟨_,by omega,hr,rfl,rfl⟩⟩
 ·have hP:=wrest hgo;have hres:=sd (au c) e;rw[if_neg o24,hP]at hres;by_cases o3:e.op=3
  ·obtain⟨a,ha⟩:=hs'.2.1 o3;obtain⟨g1,g2,-⟩:=hs'.1 (.inl o3);have hn:=db (au c) g1;have hhead:lA e.args=decide (a.op=1):=by rw[ha];rfl
   rw[if_pos o3,hhead]at hres;by_cases a1:a.op=1
   ·rw[decide_eq_true a1,if_pos rfl]at hres;have w0:IntKind.i64.wrap ((0:Int)+1)=1:=by decide
    by_cases hlt:j<e.args.length
    ·have hlt2':¬((s:Nat):Int)<100000:=by have:¬s<100000:=fun h=>hgo ⟨hlt,h⟩;omega
     have hl1:j<1:=by rw[ha]at hlt;simpa using hlt
     rw[hres];simp -dsimp -implicitDefEqProofs only[aw,V.copy,JT,cond_true,eq_self,reduceIte,JR,JQ,JP,JS,JH,hl1,decide_true,decide_eq_false hlt2',o3,ha,aT a,oi,decide_eq_true a1,w0];first|exact ac hb rfl rfl JJ ⟨rfl,rfl⟩|exact ac hb rfl rfl JI ⟨rfl,rfl⟩
    ·have hl1:¬j<1:=by rw[ha]at hlt;simpa using hlt
     rw[hres];simp -dsimp -implicitDefEqProofs only[aw,V.copy,JT,cond_true,eq_self,reduceIte,JR,JQ,JP,JS,JH,hl1,decide_false,o3,ha,decide_true,aT a,oi,decide_eq_true a1,w0];first|exact ac hb rfl rfl JJ ⟨rfl,rfl⟩|exact ac hb rfl rfl JI ⟨rfl,rfl⟩
   ·rw[decide_eq_false a1,if_neg Bool.false_ne_true]at hres;have w0:IntKind.i64.wrap ((s:Int)+4)=((s+4:Nat):Int):=by rw[wrap_i64 (by omega) (by omega)];omega
    have hmul:bZ (au c) e.name*(s+4)≤8*200004:=Nat.mul_le_mul (by omega) (by omega)
    have w2:IntKind.i64.wrap (bJ (au c) e.name*((s+4:Nat):Int))=((bZ (au c) e.name*(s+4):Nat):Int):=by
     rw[←hn,←Int.natCast_mul,wrap_i64 (by omega) (by omega)]
    generalize bZ (au c) e.name*(s+4)=M at w2 hmul hres;have w3:IntKind.i64.wrap ((M:Int)+1)=((M+1:Nat):Int):=by rw[wrap_i64 (by omega) (by omega)];omega
    have w4:min ((M+1:Nat):Int) 100000=((min (M+1) 100000:Nat):Int):=rr (M+1) 100000;rw[hres];by_cases hlt:j<e.args.length
    ·have hlt2':¬((s:Nat):Int)<100000:=by have:¬s<100000:=fun h=>hgo ⟨hlt,h⟩;omega
     have hl1:j<1:=by rw[ha]at hlt;simpa using hlt
     simp -dsimp -implicitDefEqProofs only[aw,V.copy,JT,cond_true,eq_self,reduceIte,JR,JQ,JP,JS,JH,hl1,decide_true,decide_eq_false hlt2',o3,ha,aT a,oi,decide_eq_false a1,w0,w2,w3,w4,if_false];first|exact ac hb rfl rfl JJ ⟨rfl,rfl⟩|exact ac hb rfl rfl JI ⟨rfl,rfl⟩
    ·have hl1:¬j<1:=by rw[ha]at hlt;simpa using hlt
     simp -dsimp -implicitDefEqProofs only[aw,V.copy,JT,cond_true,eq_self,reduceIte,JR,JQ,JP,JS,JH,hl1,decide_false,o3,ha,decide_true,aT a,oi,decide_eq_false a1,w0,w2,w3,w4,if_false];first|exact ac hb rfl rfl JJ ⟨rfl,rfl⟩|exact ac hb rfl rfl JI ⟨rfl,rfl⟩
  ·rw[if_neg o3]at hres;have w3:IntKind.i64.wrap ((s:Int)+1)=((s+1:Nat):Int):=by rw[wrap_i64 (by omega) (by omega)];omega
   have w4:min ((s+1:Nat):Int) 100000=((min (s+1) 100000:Nat):Int):=rr (s+1) 100000;rw[hres];by_cases hlt:j<e.args.length
   ·have hlt2':¬((s:Nat):Int)<100000:=by have:¬s<100000:=fun h=>hgo ⟨hlt,h⟩;omega
    simp -dsimp -implicitDefEqProofs only[aw,V.copy,JT,cond_true,eq_self,reduceIte,JR,JQ,JP,JS,JH,hlt,decide_true,decide_eq_false hlt2',decide_eq_false o3,w3,w4,if_false];first|exact ac hb rfl rfl JJ ⟨rfl,rfl⟩|exact ac hb rfl rfl JI ⟨rfl,rfl⟩
   ·simp -dsimp -implicitDefEqProofs only[aw,V.copy,JT,eq_self,reduceIte,JR,JQ,JP,JS,JH,hlt,decide_false,decide_eq_false o3,w3,w4,if_false];first|exact ac hb rfl rfl JJ ⟨rfl,rfl⟩|exact ac hb rfl rfl JI ⟨rfl,rfl⟩
end Go.Proofs.YthoebpnbhgmoiaaGreatDoor
