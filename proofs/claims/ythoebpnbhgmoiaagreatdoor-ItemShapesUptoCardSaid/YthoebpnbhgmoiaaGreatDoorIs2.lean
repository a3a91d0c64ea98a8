import Derived.Test.YthoebpnbhgmoiaaGreatDoorIe3
set_option linter.unusedVariables false
set_option linter.unusedSimpArgs false
set_option linter.unusedSectionVars false
open List renaming take_left→JH,take_length→JI,getElem_mem→JJ,take_succ_cons→JK
open Nat renaming reduceEqDiff→JL,reduceLeDiff→JM,reduceBEq→JO,reduceAdd→JP,reduceLT→JQ,le_refl→JR
open Option renaming isSome_some→JS,isSome_none→JT,getD_some→JU
namespace Go.Proofs.YthoebpnbhgmoiaaGreatDoor
open Go.RowKit
theorem eF(fs:List (ByteArray×Int))(s:ByteArray):lf false (V.d (D.lit (Value.int IntKind.i64 0))) ((fsz fs s).map fun n=>V.d (ah n))=.d (.lit (.int .i64 (bJ fs s))):=by
 unfold bJ;cases fsz fs s<;>rfl
theorem oi(a:Ex)(r:List (List D)):iaV 4 (V.d (.sl ([ah a.op,ah a.num,al a.name,.sl (a.args.map dex)]::r))) (V.d (D.lit (Value.int IntKind.i64 0)))=some (.row [ah a.op,ah a.num,al a.name,.sl (a.args.map dex)] 0):=rfl
theorem lj(fs:List (ByteArray×Int))(e:Ex):SOk fs e↔(e.op=3∨e.op=24→1≤bJ fs e.name∧bJ fs e.name≤8∧bH e.name=true)∧(e.op=3→∃a,e.args=[a])∧(e.op=1∨e.op=24→e.args=[])∧(e.op=1→e.name=⟨#[]⟩)∧(e.op=2→e.name≠⟨#[]⟩)∧lS fs e.args:=by
 cases e;rw[SOk];rfl
theorem i6(fs:List (ByteArray×Int))(e:Ex):dZ fs e=if e.op=1 then some e.num else if e.op=3 then(match gL fs e.args with|some i=>if bJ fs e.name≤i then some 0 else none|none=>none)else none:=by cases e;rw[dZ];rfl
theorem pW(fs:List (ByteArray×Int))(e:Ex):psE fs e=if e.op=24 then 2*bZ fs e.name-1 else if e.op=3 then(if(gL fs e.args).isSome=true then 1 else min (bZ fs e.name*(psL fs e.args 0+4)+1) 401)else min (psL fs e.args 0+1) 401:=by cases e;rw[psE];rfl
abbrev Jg(c:Option Int):V:=.tup [.d (ah (c.getD 0)),az c.isSome]
set_option maxHeartbeats 2000000 in
theorem pO(i:Nat)(fs:List (ByteArray×Int))(e:Ex):SOk fs e→∀σ,FB σ i fs→Fun G 85 [.mp i,vex e] σ (aO (Jg (dZ fs e)) σ):=by
 induction e using Ex.ind3 with
 | h e ih=>
 intro hs σ h;rw[lj]at hs;refine ao Tryz.func85 k85 (by simp only[am];rfl) fun hb hw=>?_;delta c85 oM oV kI kS kT kF;by_cases o1:e.op=1
 ·have hres:dZ fs e=some e.num:=by rw[i6,if_pos o1]
  rw[hres];simp -dsimp -implicitDefEqProofs only[aw,aj,V.copy,V.cells,V.boxable,JM,eq_self,reduceIte,reduceCtorEq,JO,JQ,JL,JP,am,o1,decide_true];first|exact ac hb rfl rfl JI ⟨rfl,rfl⟩|exact ac hb rfl rfl JH ⟨rfl,rfl⟩
 by_cases o3:e.op=3
 ·obtain⟨a,ha⟩:=hs.2.1 o3;have hSa:SOk fs a:=(ci fs).1 hs.2.2.2.2.2 a (by simp[ha]);have hcl:gL fs e.args=dZ fs a:=by rw[ha,gL]
  have hc:=fun σ h=>ih a (by simp[ha]) hSa σ h;simp only[am]at hc;simp -dsimp -implicitDefEqProofs only[aw,aj,V.copy,V.lend,V.lend1,V.cells,V.boxable,JM,eq_self,reduceIte,reduceCtorEq,JO,JQ,JL,JP,am,o3,ha,Int.reduceEq,decide_true,decide_false,aT a,oi];refine ae (hc _ (h.app _)) ?_;cases hca:dZ fs a with
  | none=>
   have hres:dZ fs e=none:=by rw[i6,if_neg o1,if_pos o3,hcl,hca]
   rw[hres];simp -dsimp -implicitDefEqProofs only[aw,V.copy,eq_self,reduceIte,reduceCtorEq,JO,JQ,JL,Option.getD_none,JT];first|exact ac hb rfl rfl JI ⟨rfl,rfl⟩|exact ac hb rfl rfl JH ⟨rfl,rfl⟩
  | some c=>
   by_cases hle:bJ fs e.name≤c
   ·have hres:dZ fs e=some 0:=by rw[i6,if_neg o1,if_pos o3,hcl,hca];exact if_pos hle
    rw[hres];simp -dsimp -implicitDefEqProofs only[aw,V.copy,JM,cond_true,eq_self,reduceIte,reduceCtorEq,JO,JQ,JL,JP,JU,JS,h.at2,bD,eF,decide_eq_true hle];first|exact ac hb rfl rfl JI ⟨rfl,rfl⟩|exact ac hb rfl rfl JH ⟨rfl,rfl⟩
   ·have hres:dZ fs e=none:=by rw[i6,if_neg o1,if_pos o3,hcl,hca];exact if_neg hle
    rw[hres];simp -dsimp -implicitDefEqProofs only[aw,V.copy,JM,cond_true,eq_self,reduceIte,reduceCtorEq,JO,JQ,JL,JP,JU,JS,h.at2,bD,eF,decide_eq_false hle];first|exact ac hb rfl rfl JI ⟨rfl,rfl⟩|exact ac hb rfl rfl JH ⟨rfl,rfl⟩
 have hres:dZ fs e=none:=by rw[i6,if_neg o1,if_neg o3]
 rw[hres];simp -dsimp -implicitDefEqProofs only[aw,aj,V.copy,V.cells,V.boxable,JM,eq_self,reduceIte,reduceCtorEq,JO,JQ,JL,JP,am,decide_eq_false o1,decide_eq_false o3];first|exact ac hb rfl rfl JI ⟨rfl,rfl⟩|exact ac hb rfl rfl JH ⟨rfl,rfl⟩
theorem Ai(fs:List (ByteArray×Int)):∀(l:List Ex) (s:Nat) {j:Nat} (h:j<l.length),psL fs (l.take (j+1)) s=min (psL fs (l.take j) s+psE fs l[j]) 401:=by
 intro l
 induction l with
 | nil=>intro s j h;simp at h
 | cons a r ih=>
  intro s j h;cases j with
  | zero=>simp only[JK,List.take_zero,psL,List.getElem_cons_zero]
  | succ j=>simp only[JK,psL,List.getElem_cons_succ];exact ih _ (by simpa using h)
theorem sO(fs:List (ByteArray×Int))(l:List Ex)(s:Nat)(hs:s≤401):psL fs l s≤401:=by
 induction l generalizing s with
 | nil=>exact hs
 | cons a r ih=>rw[psL];exact ih _ (by omega)
theorem Ea(fs:List (ByteArray×Int))(hf:∀s,bJ fs s≤8)(e:Ex):psE fs e≤401:=by
 rw[pW];split
 ·have:=hf e.name;unfold bZ;unfold bJ at this;omega
 ·split
  ·split<;>omega
  ·omega
set_option maxHeartbeats 4000000 in
theorem vH(i:Nat)(fs:List (ByteArray×Int))(hf:∀s,bJ fs s≤8)(e:Ex):SOk fs e→aA e≤1000000→∀σ,FB σ i fs→Fun G 49 [.mp i,vex e] σ (aO (.d (ah (psE fs e:Nat))) σ):=by
 induction e using Ex.ind3 with
 | h e ih=>
 intro hs hsz σ h;have he:=ip e;have hln:=hZ e.args;have hil:=h.lt;have hs':=hs;rw[lj]at hs';refine ao Tryz.func49 k49 (by simp only[am];rfl) fun hb hw=>?_;delta c49 oM oV kI kS kT kF;by_cases o24:e.op=24
 ·obtain⟨g1,g2,-⟩:=hs'.1 (.inr o24);have hn:=db fs g1;have w1:IntKind.i64.wrap (2*bJ fs e.name)=2*bJ fs e.name:=wrap_i64 (by omega) (by omega);have w2:IntKind.i64.wrap (2*bJ fs e.name-1)=((2*bZ fs e.name-1:Nat):Int):=by rw[wrap_i64 (by omega) (by omega)];omega
  have hres:psE fs e=2*bZ fs e.name-1:=by rw[pW,if_pos o24]
  rw[hres];simp -dsimp -implicitDefEqProofs only[aw,aj,V.copy,V.cells,V.boxable,JM,eq_self,reduceIte,reduceCtorEq,JO,JQ,JL,JP,am,o24,decide_true,h.at2,bD,eF,w1,w2];first|exact ac hb rfl rfl JI ⟨rfl,rfl⟩|exact ac hb rfl rfl JH ⟨rfl,rfl⟩
 simp -dsimp -implicitDefEqProofs only[aw,aj,V.copy,V.cells,V.boxable,JM,eq_self,reduceIte,reduceCtorEq,JO,JQ,JL,JP,am,decide_eq_false o24];refine bC (R:=fun(j:Nat) ρ σ'=>ρ=[(0,.mp i),(3,.ptr σ.length 0),(5,aL .i64 (psL fs (e.args.take j) 0:Nat)),(20,.d (.sl (e.args.map dex))),(21,aL .i64 e.args.length),(22,aL .i64 j)]∧σ'=σ++[[.d (ah e.op),.d (ah e.num),.d (al e.name),.d (.sl (e.args.map dex))]]) e.args.length ⟨rfl,rfl⟩ ?_ _;rintro j ρ' σ' hj ⟨rfl,rfl⟩;by_cases hlt:j<e.args.length
 ·have ht:=Ai fs e.args 0 hlt;have hel:=gp (JJ hlt);have hps:=sO fs (e.args.take j) 0 (by omega);have hpe:=Ea fs hf e.args[j];have hc:=fun σ h=>ih e.args[j] (JJ hlt) ((ci fs).1 hs'.2.2.2.2.2 _ (JJ hlt)) (by omega) σ h;simp only[am]at hc;have hxx:e.args[j]? = some e.args[j]:=List.getElem?_eq_getElem hlt;generalize e.args[j]=a at hc hxx ht hpe hel;have wj:=aH hlt (show e.args.length≤9223372036854775807 by omega);have w1:IntKind.i64.wrap ((psL fs (e.args.take j) 0:Nat)+(psE fs a:Nat):Int)=((psL fs (e.args.take j) 0+psE fs a:Nat):Int):=by rw[wrap_i64 (by omega) (by omega)];omega
  have w2:min (((psL fs (e.args.take j) 0+psE fs a:Nat)):Int) 401=((min (psL fs (e.args.take j) 0+psE fs a) 401:Nat):Int):=by omega
  simp -dsimp -implicitDefEqProofs only[aw,V.copy,V.lend,V.lend1,V.cells,V.boxable,over,JM,eq_self,reduceIte,reduceCtorEq,JO,JQ,JL,JP,Int.ofNat_lt,hlt,decide_true,hxx,aT a];refine ae (hc _ (h.app _)) ?_;simp -dsimp -implicitDefEqProofs only[aw,V.copy,eq_self,reduceIte,reduceCtorEq,JO,JQ,JL,w1,w2,wj,if_false];exact⟨hlt,Nxt.drop1 (by simp) (an hb rfl) (by simp[aq,V.under];omega) ⟨by rw[ht],rfl⟩⟩
 ·have hps:=sO fs e.args 0 (by omega);have hps0:=sO fs (e.args.take j) 0 (by omega);have hall:e.args.take j=e.args:=List.take_of_length_le (by omega);rw[hall];by_cases o3:e.op=3
  ·obtain⟨a,ha⟩:=hs'.2.1 o3;have hSa:SOk fs a:=(ci fs).1 hs'.2.2.2.2.2 a (by simp[ha]);obtain⟨g1,g2,-⟩:=hs'.1 (.inl o3);have hn:=db fs g1;have hc:=fun σ h=>pO i fs a hSa σ h;simp only[am]at hc;have hcl:gL fs e.args=dZ fs a:=by rw[ha,gL]
   have hres0:psE fs e=if(dZ fs a).isSome=true then 1 else min (bZ fs e.name*(psL fs e.args 0+4)+1) 401:=by rw[pW,if_neg o24,if_pos o3,hcl]
   generalize psL fs e.args 0=P at hps hres0;have hlt1:¬j<1:=by rw[ha]at hlt;simpa using hlt
   simp -dsimp -implicitDefEqProofs only[aw,V.copy,V.lend,V.lend1,JM,eq_self,reduceIte,reduceCtorEq,JO,JQ,JL,JP,Int.ofNat_lt,decide_eq_false hlt1,o3,decide_true,ha,aT a,oi];refine ae (hc _ (h.app _)) ?_;cases hca:dZ fs a with
   | some c=>
    have hres:psE fs e=1:=by rw[hres0,hca];exact if_pos rfl
    rw[hres];simp -dsimp -implicitDefEqProofs only[aw,V.copy,eq_self,reduceIte,reduceCtorEq,JO,JQ,JL,JS];first|exact ac hb rfl rfl JI ⟨rfl,rfl⟩|exact ac hb rfl rfl JH ⟨rfl,rfl⟩
   | none=>
    have hres:psE fs e=min (bZ fs e.name*(P+4)+1) 401:=by rw[hres0,hca];exact if_neg (by simp)
    rw[hres];have w1:IntKind.i64.wrap ((P:Int)+4)=((P+4:Nat):Int):=by rw[wrap_i64 (by omega) (by omega)];omega
    have hmul:bZ fs e.name*(P+4)≤8*405:=Nat.mul_le_mul (by omega) (by omega)
    have w2:IntKind.i64.wrap (bJ fs e.name*((P+4:Nat):Int))=((bZ fs e.name*(P+4):Nat):Int):=by
     rw[←hn,←Int.natCast_mul,wrap_i64 (by omega) (by omega)]
    generalize bZ fs e.name*(P+4)=M at w2 hmul;have w3:IntKind.i64.wrap ((M:Int)+1)=((M+1:Nat):Int):=by rw[wrap_i64 (by omega) (by omega)];omega
    have w4:min ((M+1:Nat):Int) 401=((min (M+1) 401:Nat):Int):=by omega
    simp -dsimp -implicitDefEqProofs only[aw,V.copy,JM,eq_self,reduceIte,reduceCtorEq,JO,JQ,JL,JP,JT,h.at2,bD,eF,w1,w2,w3,w4,if_false];first|exact ac hb rfl rfl JI ⟨rfl,rfl⟩|exact ac hb rfl rfl JH ⟨rfl,rfl⟩
  ·have hres:psE fs e=min (psL fs e.args 0+1) 401:=by rw[pW,if_neg o24,if_neg o3]
   rw[hres];have w1:IntKind.i64.wrap ((psL fs e.args 0:Nat)+1:Int)=((psL fs e.args 0+1:Nat):Int):=by rw[wrap_i64 (by omega) (by omega)];omega
   have w2:min (((psL fs e.args 0+1:Nat)):Int) 401=((min (psL fs e.args 0+1) 401:Nat):Int):=by omega
   simp -dsimp -implicitDefEqProofs only[aw,V.copy,JM,eq_self,reduceIte,reduceCtorEq,JO,JQ,JL,JP,Int.ofNat_lt,hlt,decide_false,decide_eq_false o3,w1,w2,if_false];first|exact ac hb rfl rfl JI ⟨rfl,rfl⟩|exact ac hb rfl rfl JH ⟨rfl,rfl⟩
def NN(e:Ex):Prop:=∀n,n∈bj e→n.op=1→0≤n.num
theorem NN.arg{e a:Ex}(h:NN e)(ha:a∈e.args):NN a:=fun n hn ho=>by
 refine h n ?_ ho;rw[kL];exact List.mem_cons_of_mem _ (dV.2 ⟨a,ha,hn⟩)
theorem Dz(fs:List (ByteArray×Int))(e:Ex):NN e→∀i,dZ fs e=some i→0≤i:=by
 induction e using Ex.ind3 with
 | h e ih=>
 intro hn i hc;rw[i6]at hc;split at hc
 ·rename_i o1;cases hc;exact hn e (by rw[kL];simp) o1
 ·split at hc
  ·split at hc
   ·split at hc
    ·cases hc;omega
    ·cases hc
   ·cases hc
  ·cases hc
theorem Ao{fs:List (ByteArray×Int)}{e:Ex}(hS:SOk fs e)(hn:NN e)(h1:(scE fs e).op=1):0≤(scE fs e).num:=by
 obtain⟨c1,c2⟩:=nh fs e hS;cases hc:dZ fs e with
 | none=>exact absurd h1 (c2 hc)
 | some i=>rw[c1 i hc];exact Dz fs e hn i hc
theorem AQ(fs:List (ByteArray×Int))(e:Ex):SOk fs e→eM [2] (fun s=>s≠⟨#[]⟩) e:=by
 induction e using Ex.ind with
 | h o n s l ih=>
 intro h;rw[SOk]at h;obtain⟨h1,h2,h3,h4,h5,h6⟩:=h;rw[dP];exact⟨fun ho=>h5 (by simpa using ho),fun a ha=>ih a ha ((ci fs).1 h6 a ha)⟩
theorem B0(e:Ex):eM [2] (fun s=>s≠⟨#[]⟩) e→okN e=true:=by
 induction e using Ex.ind with
 | h o n s l ih=>
 intro h;rw[dP]at h;rw[okN,Bool.and_eq_true,iH];refine⟨?_,fun a ha=>ih a ha (h.2 a ha)⟩;by_cases ho:o=2
 ·simp[ho,h.1 (by simp[ho])]
 ·simp[ho]
theorem BJ(a:ByteArray)(k:Nat):aB a k≠⟨#[]⟩:=fun h=>by
 have:(aB a k).data.toList=[]:=by rw[h]
 unfold aB at this;simp at this
theorem DU{fs:List (ByteArray×Int)}{e:Ex}(hS:SOk fs e)(hn:NN e):okN (scE fs e)=true:=
 B0 _ (np fs (fun s=>s≠⟨#[]⟩) (fun a k _=>BJ a k) e hS (AQ fs e hS) hn).1
theorem Nxt.drop4{n0:Nat}{R:ai→List (List V)→Prop}{ρ:ai}{σ:List (List V)}{a b c d:List V}(hn:n0≤σ.length)(hb:ay (σ++[a,b,c]).length (σ++[a,b,c])=true)(hs:aq (σ++[a,b,c]).length ρ=true)(hR:R ρ (σ++[a,b,c])):Nxt n0 R ρ (σ++[a,b,c,d]) .mk:=by
 have e:σ++[a,b,c,d]=(σ++[a,b,c])++[d]:=by simp
 rw[e];exact Nxt.drop (by rw[List.length_append];omega) hb hs hR
theorem yD{n j:Nat}(hn:n≤8)(h:j<n):IntKind.i64.wrap (((n-(j+1):Nat):Int)-1)=(n:Int)-1-((j+1:Nat):Int):=by rw[wrap_i64 (by omega) (by omega)];omega
set_option maxHeartbeats 4000000 in
theorem tV(i:Nat)(fs:List (ByteArray×Int))(a:ByteArray)(ix:Ex)(h1:1≤bJ fs a)(h8:bJ fs a≤8)(ha:bH a=true)(hok:okN ix=true)(hsz:aA ix≤1000000)(hnn:ix.op=1→0≤ix.num)(σ:List (List V))(h:FB σ i fs):
 Fun G 87 [.mp i,.d (al a),vex ix] σ (aO (vex (dX fs a ix)) σ):=by
 have hn:=db fs h1;have has:a.size≤1000:=by have:=dC ha;omega
 refine ao Tryz.func87 k87 (by simp only[am];rfl) fun hb hw=>?_;delta c87 oM oV kI kS kT kF;have hel:=fun k hk σ=>lJ a k hk has σ;have vel:∀k,vex (elE a k)=.agg [.d (ah 2),.d (ah 0),.d (al (aB a k)),.d (.sl [])]:=fun k=>by rw[am];rfl
 simp only[vel]at hel;have vcz:vex (aU 0)=.agg [.d (ah 1),.d (ah 0),.d (al ⟨#[]⟩),.d (.sl [])]:=by rw[am];rfl
 by_cases o1:ix.op=1
 ·have hnum:=hnn o1;by_cases hlt:ix.num<bJ fs a
  ·have hres:dX fs a ix=elE a ix.num.toNat:=by unfold dX;rw[if_pos o1,if_pos hlt]
   rw[hres,vel];simp -dsimp -implicitDefEqProofs only[aw,aj,V.copy,V.lend,V.cells,V.boxable,over,bc,JM,eq_self,reduceIte,reduceCtorEq,JO,JQ,JL,JP,am,o1,decide_true,h.at2,bD,eF,decide_eq_true hlt];have hk:=hel ix.num.toNat (by omega);rw[show((ix.num.toNat:Nat):Int)=ix.num by omega]at hk;refine ae (hk _) ?_;simp -dsimp -implicitDefEqProofs only[aw,V.copy,V.cells,V.boxable,over,bc,JM,eq_self,reduceIte,JO,JQ,JL,JP];exact ac (v:=.agg [.d (ah 2),.d (ah 0),.d (al (aB a ix.num.toNat)),.d (.sl [])]) hb (by simp[AF,cG,cS,aw,V.copy,V.lend,V.lend1,eq_self,reduceIte,JP]) rfl JH ⟨rfl,rfl⟩
  ·have hres:dX fs a ix=aU 0:=by unfold dX;rw[if_pos o1,if_neg hlt]
   rw[hres,vcz];simp -dsimp -implicitDefEqProofs only[aw,aj,V.copy,V.cells,V.boxable,over,bc,JM,eq_self,reduceIte,reduceCtorEq,JO,JQ,JL,JP,am,o1,decide_true,h.at2,bD,eF,decide_eq_false hlt];exact ac (v:=.agg [.d (ah 1),.d (ah 0),.d (al ⟨#[]⟩),.d (.sl [])]) hb (by simp[AF,cG,cS,aw,V.copy,V.lend,V.lend1,eq_self,reduceIte,JP]) rfl JH ⟨rfl,rfl⟩
 have hres:dX fs a ix=chX a (bZ fs a) ix (bZ fs a):=by unfold dX;rw[if_neg o1]
 rw[hres];have hcp:=fun σ=>mH ix hok hsz σ;simp only[am]at hcp;have hd:decide (ix.op=1)=false:=decide_eq_false o1;generalize hN:bZ fs a=n at hn ⊢;rw[←hn]at h1 h8;have w0:IntKind.i64.wrap ((n:Int)-1)=(n:Int)-1:=wrap_i64 (by omega) (by omega);simp -dsimp -implicitDefEqProofs only[aw,aj,V.copy,V.cells,V.boxable,over,bc,JM,eq_self,reduceIte,reduceCtorEq,JO,JQ,JL,JP,am,hd,h.at2,bD,eF,←hn,w0];have ez:(n:Int)-1=(n:Int)-1-((0:Nat):Int):=by omega
 rw[ez];refine bC (R:=fun(j:Nat) ρ σ'=>∃l,(l=.d (.sl ((chX a n ix j).args.map dex))∨l=.nil∧j=0)∧ρ=[(1,.d (al a)),(5,.ptr σ.length 0),(6,.ptr (σ.length+1) 0),(7,.ptr (σ.length+2) 0),(8,aL .i64 ((n:Int)-1-(j:Int)))]∧σ'=σ++[[.d (ah ix.op),.d (ah ix.num),.d (al ix.name),.d (.sl (ix.args.map dex))],[.d (ah 0),.d (ah 0),.d (al ⟨#[]⟩),.nil],[.d (ah (chX a n ix j).op),.d (ah (chX a n ix j).num),.d (al (chX a n ix j).name),l]]) n ⟨.nil,.inr ⟨rfl,rfl⟩,rfl,rfl⟩ ?_ _;rintro j ρ' σ' hj ⟨l,hl,rfl,rfl⟩;by_cases hlt:j<n
 ·have ek:(n:Int)-1-(j:Int)=((n-(j+1):Nat):Int):=by omega
  have hge:(0:Int)≤((n-(j+1):Nat):Int):=by omega
  rw[ek];have hk:=hel (n-(j+1)) (by omega);have wd:=yD (n:=n) (j:=j) (by omega) hlt;have hch:chX a n ix (j+1)=.mk 22 0 ⟨#[]⟩ [.mk 15 0 ⟨#[]⟩ [ix,aU ((n-(j+1):Nat):Int)],elE a (n-(j+1)),chX a n ix j]:=rfl;have hC:j=0→(chX a n ix j).args=[]:=by rintro rfl;rfl
  generalize chX a n ix j=C at hch hl hC ⊢;generalize n-(j+1)=k at ek hge hk wd hch ⊢;simp -dsimp -implicitDefEqProofs only[aw,V.copy,V.lend,V.lend1,JM,eq_self,reduceIte,JO,JQ,JL,JP,decide_eq_true hge];refine ae (hcp _) ?_;simp -dsimp -implicitDefEqProofs only[aw,V.copy,V.lend,V.cells,V.boxable,over,bc,aC,aF,V.plain,JM,eq_self,reduceIte,JO,JQ,JL,JP];refine aZ (hk _) ?_
  have hl2:(chX a n ix (j+1)).args.map dex=[[ah 15,ah 0,al ⟨#[]⟩,.sl [[ah ix.op,ah ix.num,al ix.name,.sl (ix.args.map dex)],[ah 1,ah k,al ⟨#[]⟩,.sl []]]],[ah 2,ah 0,al (aB a k),.sl []],[ah C.op,ah C.num,al C.name,.sl (C.args.map dex)]]:=by
   rw[hch];simp only[Ex.args,List.map_cons,List.map_nil,aT,aU,elE,Ex.op,Ex.num,Ex.name]
  rcases hl with rfl|⟨rfl,rfl⟩
  ·simp -dsimp -implicitDefEqProofs only[aw,V.copy,V.cells,V.boxable,over,bc,aC,aF,V.plain,JM,eq_self,reduceIte,JO,JQ,JL,JP,wd];exact⟨hlt,Nxt.drop4 (JR _) (an hb rfl) (by simp[aq,V.under]) ⟨_,.inl rfl,rfl,by rw[hl2,hch];rfl⟩⟩
  ·have hC:=hC rfl;rw[hC]at hl2;simp -dsimp -implicitDefEqProofs only[aw,V.copy,V.cells,V.boxable,over,bc,aC,aF,V.plain,JM,eq_self,reduceIte,JO,JQ,JL,JP,wd];exact⟨hlt,Nxt.drop4 (JR _) (an hb rfl) (by simp[aq,V.under]) ⟨_,.inl rfl,rfl,by rw[hl2,hch];rfl⟩⟩
 ·have hge:¬(0:Int)≤(n:Int)-1-(j:Int):=by omega
  have:j=n:=by omega
  subst this;obtain rfl:l=.d (.sl ((chX a j ix j).args.map dex)):=hl.resolve_right (by omega);simp -dsimp -implicitDefEqProofs only[aw,V.copy,V.cells,V.boxable,over,JM,eq_self,reduceIte,JO,JQ,JL,JP,decide_eq_false hge];rw[am];exact ac (v:=.agg [.d (ah (chX a j ix j).op),.d (ah (chX a j ix j).num),.d (al (chX a j ix j).name),.d (.sl ((chX a j ix j).args.map dex))]) hb (by simp[AF,cG,cS,aw,V.copy,V.lend,V.lend1,eq_self,reduceIte,JQ,JP]) rfl JH ⟨rfl,rfl⟩
theorem kN(fs:List (ByteArray×Int))(e:Ex):scE fs e=if e.op=24 then eH e.name (bZ fs e.name-1)else if e.op=3 then(match scL fs e.args with|a::_=>dX fs e.name a | []=>aU 0)else .mk e.op e.num e.name (scL fs e.args):=by cases e;rw[scE];rfl
theorem Fj(fs:List (ByteArray×Int))(e:Ex):tE fs e=if e.op=24 then 2*bZ fs e.name-1 else if e.op=3 then(if(gL fs e.args).isSome=true then 1 else bZ fs e.name*(tL fs e.args+4)+1)else tL fs e.args+1:=by cases e;rw[tE];rfl
theorem Dv(fs:List (ByteArray×Int)){l:List Ex}{a:Ex}(h:a∈l):tE fs a≤tL fs l:=by
 induction l with
 | nil=>cases h
 | cons b r ih=>
  rw[tL];rcases List.mem_cons.1 h with rfl|h
  ·omega
  ·have:=ih h;omega
theorem Ab{fs:List (ByteArray×Int)}{e a:Ex}(hS:SOk fs e)(ha:a∈e.args)(h:tE fs e≤400):tE fs a≤400:=by
 have hS':=hS;rw[lj]at hS';have hSa:=(ci fs).1 hS'.2.2.2.2.2 a ha;have hm:=Dv fs ha;rw[Fj]at h;by_cases o24:e.op=24
 ·rw[hS'.2.2.1 (.inr o24)]at ha;cases ha
 rw[if_neg o24]at h;by_cases o3:e.op=3
 ·rw[if_pos o3]at h;obtain⟨b,hb⟩:=hS'.2.1 o3;rw[hb]at ha;simp only[List.mem_singleton]at ha;subst ha;have hcl:gL fs e.args=dZ fs a:=by rw[hb,gL]
  rw[hcl]at h;cases hc:dZ fs a with
  | some c=>
   have h1:=j9 fs a hSa;rw[(nh fs a hSa).1 c hc]at h1;rw[←h1];unfold aU;simp[aA,aG]
  | none=>
   rw[hc,if_neg (by simp)]at h;obtain⟨g1,g2,-⟩:=hS'.1 (.inl o3);have hn:=db fs g1;have:1*(tL fs e.args+4)≤bZ fs e.name*(tL fs e.args+4):=Nat.mul_le_mul_right _ (by omega);omega
 ·rw[if_neg o3]at h;omega
end Go.Proofs.YthoebpnbhgmoiaaGreatDoor
