import Derived.Test.YthoebpnbhgmoiaaGreatDoorIr1
set_option linter.unusedVariables false
set_option linter.unusedSimpArgs false
set_option linter.unusedSectionVars false
open Bool renaming false_ne_true→JH,true_and→JI
open Int renaming ofNat_lt→JJ,reduceEq→JK
open List renaming take_length→JL,take_left→JM,drop_eq_getElem_cons→JO,getElem?_eq_getElem→JP,drop_eq_nil_of_le→JQ,getElem_mem→JR
open Nat renaming reduceEqDiff→JS,reduceBEq→JT,reduceLT→JU,reduceLeDiff→JV,reduceAdd→JW,le_refl→JX
open Option renaming isSome_some→JY,getD_some→JZ
namespace Go.Proofs.YthoebpnbhgmoiaaGreatDoor
open Go.RowKit
set_option maxHeartbeats 4000000 in
theorem wI(x:It)(d:Nat)(hbig:eO x≤1000000)(hd:d≤1000000)(σ:List (List V)):Fun G 107 [vit x,.d (ah d)] σ (aO (.d (ah (bp x d))) σ):=by
 have hb0:=bI x;refine ao Tryz.func107 H1 (by simp only[aK];rfl) fun hb hw=>?_;delta FS oM oV kI kS kT kF;by_cases q1:x.kind<1
 ·have hs:bp x d=1:=by unfold bp;rw[if_pos (.inl (by omega))]
  rw[hs];simp -dsimp -implicitDefEqProofs only[aw,aj,V.copy,V.cells,V.boxable,JV,eq_self,reduceIte,reduceCtorEq,JT,JU,JS,JW,aK,decide_eq_true q1];first|exact ac hb rfl rfl JL ⟨rfl,rfl⟩|exact ac hb rfl rfl JM ⟨rfl,rfl⟩
 by_cases q6:6<x.kind
 ·have hs:bp x d=1:=by unfold bp;rw[if_pos (.inl (by omega))]
  rw[hs];simp -dsimp -implicitDefEqProofs only[aw,aj,V.copy,V.cells,V.boxable,JV,cond_false,eq_self,reduceIte,reduceCtorEq,JT,JU,JS,JW,aK,decide_eq_false q1,decide_eq_true q6];first|exact ac hb rfl rfl JL ⟨rfl,rfl⟩|exact ac hb rfl rfl JM ⟨rfl,rfl⟩
 have hk:1≤x.kind∧x.kind≤6:=by omega
 have hun:=fun σ=>tx x hbig hk σ;simp only[aK]at hun;simp -dsimp -implicitDefEqProofs only[aw,aj,V.copy,V.lend,V.lend1,V.cells,V.boxable,JV,cond_false,eq_self,reduceIte,reduceCtorEq,JT,JU,JS,JW,aK,decide_eq_false q1,decide_eq_false q6];refine ae (hun _) ?_;cases hp:bE x with
 | false=>
  have hs:bp x d=1:=by unfold bp;rw[if_pos (.inr (.inl hp))]
  rw[hs];simp -dsimp -implicitDefEqProofs only[aw,V.copy,cond_false,eq_self,reduceIte,JT,JU,JS];first|exact ac hb rfl rfl JL ⟨rfl,rfl⟩|exact ac hb rfl rfl JM ⟨rfl,rfl⟩
 | true=>
 by_cases h4:4<d
 ·have hs:bp x d=1:=by unfold bp;rw[if_pos (.inr (.inr (.inl h4)))]
  have h4':(4:Int)<(d:Int):=by omega
  rw[hs];simp -dsimp -implicitDefEqProofs only[aw,V.copy,cond_false,eq_self,reduceIte,JT,JU,JS,decide_eq_true h4'];first|exact ac hb rfl rfl JL ⟨rfl,rfl⟩|exact ac hb rfl rfl JM ⟨rfl,rfl⟩
 have h4':¬(4:Int)<(d:Int):=by omega
 by_cases hdd:0<d∧(x.kind=3∨x.kind=6)
 ·have hs:bp x d=1:=by unfold bp;rw[if_pos (.inr (.inr (.inr hdd)))]
  have h0:(0:Int)<(d:Int):=by omega
  rw[hs];rcases hdd.2 with k|k
  all_goals
   simp -dsimp -implicitDefEqProofs only[aw,V.copy,JV,cond_true,cond_false,eq_self,reduceIte,JT,JU,JS,JW,decide_eq_false h4',decide_eq_true h0,k,JK,decide_true,decide_false];first|exact ac hb rfl rfl JL ⟨rfl,rfl⟩|exact ac hb rfl rfl JM ⟨rfl,rfl⟩
 have hs:bp x d=if x.kind=3 then fY x else if x.kind=6 then iK x else if x.kind=5 then oY x else aX x.ex:=by
  unfold bp;rw[if_neg];rintro(h|h|h|h)
  ·exact h hk
  ·rw[hp]at h;cases h
  ·exact h4 h
  ·exact hdd h
 rw[hs];have hv:=fun σ=>hY x.ex (by omega) (by have:=dO x.ex;omega) σ;simp only[am]at hv;have hds:=fun σ=>zj x hbig σ;simp only[aK]at hds;by_cases k3:x.kind=3
 ·have h0:¬(0:Int)<(d:Int):=by have:¬0<d:=fun h=>hdd ⟨h,.inl k3⟩;omega
  rw[if_pos k3];rw[k3]at hds;simp -dsimp -implicitDefEqProofs only[aw,V.copy,V.lend,V.lend1,JV,cond_false,eq_self,reduceIte,JT,JU,JS,JW,decide_eq_false h4',decide_eq_false h0,k3,decide_true];refine ae (hds _) ?_;simp -dsimp -implicitDefEqProofs only[aw,V.copy,eq_self,reduceIte,JT,JU,JS];first|exact ac hb rfl rfl JL ⟨rfl,rfl⟩|exact ac hb rfl rfl JM ⟨rfl,rfl⟩
 by_cases k6:x.kind=6
 ·have h0:¬(0:Int)<(d:Int):=by have:¬0<d:=fun h=>hdd ⟨h,.inr k6⟩;omega
  rw[if_neg k3,if_pos k6];have hvb:=fun σ=>rL x.bef (by omega) σ;have hva:=fun σ=>rL x.aft (by omega) σ;simp only[aQ]at hvb hva;have hsol:iK x=if x.bef=[]∨x.aft=[]then 1 else if(x.bef.all bv&&x.aft.all bv)=true then 0 else 7:=by unfold iK;rw[List.all_append]
  rw[hsol];by_cases hB:x.bef=[]
  ·have e:decide (((x.bef.length:Nat):Int)=0)=true:=by simp[hB]
   rw[if_pos (.inl hB)];simp -dsimp -implicitDefEqProofs only[aw,V.copy,JV,cond_false,eq_self,reduceIte,JT,JU,JS,JW,decide_eq_false h4',decide_eq_false h0,k6,JK,decide_true,decide_false,e];first|exact ac hb rfl rfl JL ⟨rfl,rfl⟩|exact ac hb rfl rfl JM ⟨rfl,rfl⟩
  have eB:decide (((x.bef.length:Nat):Int)=0)=false:=by have:=List.length_pos_iff.2 hB;simp;omega
  by_cases hA:x.aft=[]
  ·have e:decide (((x.aft.length:Nat):Int)=0)=true:=by simp[hA]
   rw[if_pos (.inr hA)];simp -dsimp -implicitDefEqProofs only[aw,V.copy,JV,cond_false,eq_self,reduceIte,JT,JU,JS,JW,decide_eq_false h4',decide_eq_false h0,k6,JK,decide_true,decide_false,eB,e];first|exact ac hb rfl rfl JL ⟨rfl,rfl⟩|exact ac hb rfl rfl JM ⟨rfl,rfl⟩
  have eA:decide (((x.aft.length:Nat):Int)=0)=false:=by have:=List.length_pos_iff.2 hA;simp;omega
  rw[if_neg (fun h=>h.elim hB hA)];simp -dsimp -implicitDefEqProofs only[aw,V.copy,V.lend,JV,cond_false,eq_self,reduceIte,JT,JU,JS,JW,decide_eq_false h4',decide_eq_false h0,k6,JK,decide_true,decide_false,eB,eA];refine ae (hvb _) ?_;cases h1:x.bef.all bv with
  | false=>
   rw[Bool.false_and,if_neg JH];simp -dsimp -implicitDefEqProofs only[aw,V.copy,eq_self,reduceIte,JT,JU,JS];first|exact ac hb rfl rfl JL ⟨rfl,rfl⟩|exact ac hb rfl rfl JM ⟨rfl,rfl⟩
  | true=>
   simp -dsimp -implicitDefEqProofs only[aw,V.copy,V.lend,JV,eq_self,reduceIte,JU,JS,JW];refine ae (hva _) ?_;cases h2:x.aft.all bv with
   | false=>
    rw[JI,if_neg JH];simp -dsimp -implicitDefEqProofs only[aw,V.copy,cond_false,eq_self,reduceIte,JT,JU,JS];first|exact ac hb rfl rfl JL ⟨rfl,rfl⟩|exact ac hb rfl rfl JM ⟨rfl,rfl⟩
   | true=>
    rw[JI,if_pos rfl];simp -dsimp -implicitDefEqProofs only[aw,V.copy,cond_false,eq_self,reduceIte,JT,JU,JS];first|exact ac hb rfl rfl JL ⟨rfl,rfl⟩|exact ac hb rfl rfl JM ⟨rfl,rfl⟩
 rw[if_neg k3,if_neg k6];by_cases k5:x.kind=5
 ·rw[if_pos k5];unfold oY;by_cases h0:(0:Int)<(d:Int)
  all_goals
   simp -dsimp -implicitDefEqProofs only[aw,V.copy,V.lend,JV,cond_true,cond_false,eq_self,reduceIte,JT,JU,JS,JW,decide_eq_false h4',h0,k5,JK,decide_true,decide_false];refine ae (gS x.name _) ?_;cases hn:bH x.name with
   | false=>
    rw[if_neg (by simp)];simp -dsimp -implicitDefEqProofs only[aw,V.copy,eq_self,reduceIte,JT,JU,JS];first|exact ac hb rfl rfl JL ⟨rfl,rfl⟩|exact ac hb rfl rfl JM ⟨rfl,rfl⟩
   | true=>
    simp -dsimp -implicitDefEqProofs only[aw,V.copy,V.lend,JV,eq_self,reduceIte,JU,JS,JW];refine ae (gS x.idx _) ?_;cases hx:bH x.idx with
    | false=>
     rw[if_neg (by simp)];simp -dsimp -implicitDefEqProofs only[aw,V.copy,cond_false,eq_self,reduceIte,JT,JU,JS];first|exact ac hb rfl rfl JL ⟨rfl,rfl⟩|exact ac hb rfl rfl JM ⟨rfl,rfl⟩
    | true=>
     rw[if_pos ⟨rfl,rfl⟩];simp -dsimp -implicitDefEqProofs only[aw,V.copy,cond_false,eq_self,reduceIte,JT,JU,JS];first|exact ac hb rfl rfl JL ⟨rfl,rfl⟩|exact ac hb rfl rfl JM ⟨rfl,rfl⟩
 rw[if_neg k5];by_cases h0:(0:Int)<(d:Int)
 all_goals
  simp -dsimp -implicitDefEqProofs only[aw,V.copy,V.lend,V.lend1,JV,cond_true,cond_false,eq_self,reduceIte,JT,JU,JS,JW,decide_eq_false h4',h0,decide_eq_false k3,decide_eq_false k5,decide_eq_false k6,decide_true,decide_false];refine ae (hv _) ?_;simp -dsimp -implicitDefEqProofs only[aw,V.copy,eq_self,reduceIte,JT,JU,JS];first|exact ac hb rfl rfl JL ⟨rfl,rfl⟩|exact ac hb rfl rfl JM ⟨rfl,rfl⟩
set_option maxHeartbeats 2000000 in
theorem rQ:∀l:List It,bu l≤1000000→∀(d:Nat),d+bu l≤1000000→∀σ,Fun G 64 [.d (de l),.d (ah d)] σ (aO (.d (ah (rvl l d))) σ):=by
 refine fe fun l ih hs d hd σ=>?_;have hln:=eV l;refine ao Tryz.func64 k64 rfl fun hb hw=>?_;delta c64 oM oV kI kS kT kF;simp -dsimp -implicitDefEqProofs only[aw,aj,V.copy,eq_self,reduceIte,reduceCtorEq,JT,JU,JS];refine bC (R:=fun(j:Nat) ρ σ'=>ρ=[(0,.d (de l)),(1,.d (ah d)),(5,aL .i64 j)]∧σ'=σ∧rvl l d=rvl (l.drop j) d) l.length ⟨rfl,rfl,rfl⟩ ?_ _;rintro j ρ' σ' hj ⟨rfl,rfl,hr⟩;by_cases hlt:j<l.length
 ·rw[JO hlt,rvl,pX]at hr;obtain⟨i1,i2⟩:=ih _ (JR hlt);have hm:=cm (JR hlt);have hxx:l[j]? = some l[j]:=JP hlt;generalize l[j]=x at hr i1 i2 hm hxx;have hbx:=bI x;have hwr:=fun σ=>wI x d (by omega) (by omega) σ;have h1:=fun σ=>i1 (by omega) (d+1) (by omega) σ;have h2:=fun σ=>i2 (by omega) (d+1) (by omega) σ;have w1:IntKind.i64.wrap ((d:Int)+1)=((d+1:Nat):Int):=by rw[wrap_i64 (by omega) (by omega)];omega
  have wj:=aH hlt (show l.length≤9223372036854775807 by omega);simp only[aK]at hwr;simp -dsimp -implicitDefEqProofs only[aw,V.copy,V.lend,V.lend1,JV,eq_self,reduceIte,reduceCtorEq,JT,JU,JS,JW,JJ,hlt,decide_true,hxx,cr x];refine ae (hwr _) ?_;by_cases s1:bp x d=0
  case neg=>
   rw[if_neg s1,if_neg s1]at hr;rw[hr];simp -dsimp -implicitDefEqProofs only[aw,V.copy,eq_self,reduceIte,reduceCtorEq,JT,JU,JS,decide_eq_false s1];first|exact ac hb rfl rfl JL ⟨rfl,rfl⟩|exact ac hb rfl rfl JM ⟨rfl,rfl⟩
  rw[if_pos s1]at hr;simp -dsimp -implicitDefEqProofs only[aw,V.copy,V.lend,JV,eq_self,reduceIte,reduceCtorEq,JT,JU,JS,JW,s1,decide_true,hxx,cr x,w1];refine ae (h1 _) ?_;by_cases s2:rvl x.items (d+1)=0
  case neg=>
   rw[if_neg s2,if_neg s2]at hr;rw[hr];simp -dsimp -implicitDefEqProofs only[aw,V.copy,eq_self,reduceIte,reduceCtorEq,JT,JU,JS,decide_eq_false s2];first|exact ac hb rfl rfl JL ⟨rfl,rfl⟩|exact ac hb rfl rfl JM ⟨rfl,rfl⟩
  rw[if_pos s2]at hr;simp -dsimp -implicitDefEqProofs only[aw,V.copy,V.lend,JV,eq_self,reduceIte,reduceCtorEq,JT,JU,JS,JW,s2,decide_true,hxx,cr x,w1];refine ae (h2 _) ?_;by_cases s3:rvl x.els (d+1)=0
  case neg=>
   rw[if_neg s3]at hr;rw[hr];simp -dsimp -implicitDefEqProofs only[aw,V.copy,eq_self,reduceIte,reduceCtorEq,JT,JU,JS,decide_eq_false s3];first|exact ac hb rfl rfl JL ⟨rfl,rfl⟩|exact ac hb rfl rfl JM ⟨rfl,rfl⟩
  rw[if_pos s3]at hr;simp -dsimp -implicitDefEqProofs only[aw,V.copy,eq_self,reduceIte,reduceCtorEq,JT,JU,JS,s3,decide_true,wj];exact⟨hlt,Nxt.same (JX _) hb (by simp[aq,V.under]) ⟨rfl,rfl,hr⟩⟩
 ·rw[JQ (by omega),rvl]at hr;rw[hr];simp -dsimp -implicitDefEqProofs only[aw,V.copy,eq_self,reduceIte,reduceCtorEq,JT,JU,JS,JJ,hlt,decide_false];first|exact ac hb rfl rfl JL ⟨rfl,rfl⟩|exact ac hb rfl rfl JM ⟨rfl,rfl⟩
theorem lK(l:List It)(hl:bu l≤900000)(σ:List (List V)):Fun G 32 [.d (de l)] σ (aO (.d (ah (fp l))) σ):=by
 refine ao Tryz.func32 k32 rfl fun hb hw=>?_;delta c32 oM oV kI kS kT kF;unfold fp;simp -dsimp -implicitDefEqProofs only[aw,aj,V.copy,V.lend,eq_self,reduceIte,reduceCtorEq,JT,JU];refine ae (ng l (by have:=jX l;omega) _) ?_;by_cases h:64<bN l
 ·have h':(64:Int)<(bN l:Int):=by omega
  rw[if_pos h];simp -dsimp -implicitDefEqProofs only[aw,V.copy,V.lend,eq_self,reduceIte,reduceCtorEq,JT,JU,JS,decide_eq_true h'];first|exact ac hb rfl rfl JL ⟨rfl,rfl⟩|exact ac hb rfl rfl JM ⟨rfl,rfl⟩
 ·have h':¬(64:Int)<(bN l:Int):=by omega
  rw[if_neg h];simp -dsimp -implicitDefEqProofs only[aw,V.copy,V.lend,eq_self,reduceIte,reduceCtorEq,JT,JU,JS,decide_eq_false h'];refine ae (rQ l (by omega) 0 (by omega) _) ?_;simp -dsimp -implicitDefEqProofs only[aw,V.copy,eq_self,reduceIte,reduceCtorEq,JT,JU,JS];first|exact ac hb rfl rfl JL ⟨rfl,rfl⟩|exact ac hb rfl rfl JM ⟨rfl,rfl⟩
abbrev I1(o:Option Int):V:=.tup [.d (ah (o.getD 0)),az o.isSome]
theorem Az(c:Cl)(s:ByteArray){j:Nat}(h:j<c.fields.length):fsz ((au c).drop j) s=if c.fields[j].name=s then some c.fields[j].size else fsz ((au c).drop (j+1)) s:=by
 have h':j<(au c).length:=by unfold au;simpa using h
 have he:(au c)[j]=(c.fields[j].name,c.fields[j].size):=by simp[au]
 rw[JO h',he];unfold fsz;rw[List.find?_cons];by_cases e:c.fields[j].name=s
 ·rw[if_pos e];simp[e]
 ·rw[if_neg e];simp[e]
theorem eR(c:Cl)(s:ByteArray)(hl:c.fields.length≤1000000)(σ:List (List V)):Fun G 80 [vcl c,.d (al s)] σ (aO (I1 (fsz (au c) s)) σ):=by
 refine ao Tryz.func80 k80 rfl fun hb hw=>?_;delta c80 oM oV kI kS kT kF;simp -dsimp -implicitDefEqProofs only[aw,aj,V.copy,V.cells,V.boxable,eq_self,reduceIte,reduceCtorEq,JT,JU,JS];refine bC (R:=fun(j:Nat) ρ σ'=>ρ=[(1,.d (al s)),(2,.ptr σ.length 0),(6,aL .i64 j)]∧σ'=σ++[em c]∧fsz (au c) s=fsz ((au c).drop j) s) c.fields.length ⟨rfl,rfl,rfl⟩ ?_ _;rintro j ρ' σ' hj ⟨rfl,rfl,hr⟩;by_cases hlt:j<c.fields.length
 ·rw[Az c s hlt]at hr;have hxx:c.fields[j]? = some c.fields[j]:=JP hlt;generalize c.fields[j]=f at hr hxx;have hd:dfd f=[al f.name,ah f.width,ah f.size,ah f.mode,ah f.init]:=rfl;have wj:=aH hlt (show c.fields.length≤9223372036854775807 by omega);by_cases e:f.name=s
  ·rw[if_pos e]at hr;rw[hr];simp -dsimp -implicitDefEqProofs only[aw,V.copy,JV,eq_self,reduceIte,JT,JU,JS,JW,JJ,hlt,decide_true,hxx,hd,decide_eq_true e];first|exact ac hb rfl rfl JL ⟨rfl,rfl⟩|exact ac hb rfl rfl JM ⟨rfl,rfl⟩
  ·rw[if_neg e]at hr;simp -dsimp -implicitDefEqProofs only[aw,V.copy,JV,eq_self,reduceIte,JT,JU,JS,JW,JJ,hlt,decide_true,hxx,hd,decide_eq_false e,wj];exact Nxt.same (by simp) (an hb rfl) (by simp[aq,V.under]) ⟨rfl,rfl,hr⟩
 ·have h0:(au c).drop j=[]:=JQ (by unfold au;rw[List.length_map];omega);rw[h0]at hr;have h1:fsz [] s=none:=rfl;rw[h1]at hr;rw[hr];simp -dsimp -implicitDefEqProofs only[aw,V.copy,JV,eq_self,reduceIte,JT,JU,JS,JW,JJ,hlt,decide_false];first|exact ac hb rfl rfl JL ⟨rfl,rfl⟩|exact ac hb rfl rfl JM ⟨rfl,rfl⟩
theorem js(c:Cl)(s:ByteArray)(hl:c.fields.length≤1000000)(σ:List (List V)):Fun G 90 [vcl c,.d (al s)] σ (aO (.d (ah (dN (au c) s))) σ):=by
 refine ao Tryz.func90 k90 rfl fun hb hw=>?_;delta c90 oM oV kI kS kT kF;simp -dsimp -implicitDefEqProofs only[aw,aj,V.copy,V.lend,V.lend1,V.cells,V.boxable,JV,eq_self,reduceIte,reduceCtorEq,JT,JU,JS,JW];refine ae (eR c s hl _) ?_;cases hf:fsz (au c) s with
 | none=>
  rw[show dN (au c) s=7 by unfold dN;rw[hf]];simp -dsimp -implicitDefEqProofs only[aw,V.copy,eq_self,reduceIte,JT,JU,JS,Option.getD_none,Option.isSome_none];first|exact ac hb rfl rfl JL ⟨rfl,rfl⟩|exact ac hb rfl rfl JM ⟨rfl,rfl⟩
 | some n=>
  have e:dN (au c) s=if n<1 then 9 else 0:=by unfold dN;rw[hf]
  rw[e];by_cases h0:n<1
  ·rw[if_pos h0];simp -dsimp -implicitDefEqProofs only[aw,V.copy,eq_self,reduceIte,JT,JU,JS,JZ,JY,decide_eq_true h0];first|exact ac hb rfl rfl JL ⟨rfl,rfl⟩|exact ac hb rfl rfl JM ⟨rfl,rfl⟩
  ·rw[if_neg h0];simp -dsimp -implicitDefEqProofs only[aw,V.copy,eq_self,reduceIte,JT,JU,JS,JZ,JY,decide_eq_false h0];first|exact ac hb rfl rfl JL ⟨rfl,rfl⟩|exact ac hb rfl rfl JM ⟨rfl,rfl⟩
theorem yq(l:List ByteArray)(s:ByteArray){j:Nat}(h:j<l.length):inB s (l.drop j)=(decide (l[j]=s)||inB s (l.drop (j+1))):=by
 rw[JO h];unfold inB;rw[List.any_cons]
theorem fF(l:List ByteArray)(s:ByteArray)(hl:l.length≤1000000)(σ:List (List V)):Fun G 62 [.d (aQ l),.d (al s)] σ (aO (az (inB s l)) σ):=by
 refine ao Tryz.func62 k62 rfl fun hb hw=>?_;delta c62 oM oV kI kS kT kF;simp -dsimp -implicitDefEqProofs only[aw,aj,V.copy,eq_self,reduceIte,reduceCtorEq,JT,JU,JS,aQ];refine bC (R:=fun(j:Nat) ρ σ'=>ρ=[(0,.d (.sl (l.map fun s=>[al s]))),(1,.d (al s)),(5,aL .i64 j)]∧σ'=σ∧inB s l=inB s (l.drop j)) l.length ⟨rfl,rfl,rfl⟩ ?_ _;rintro j ρ' σ' hj ⟨rfl,rfl,hr⟩;by_cases hlt:j<l.length
 ·rw[yq l s hlt]at hr;have hxx:l[j]? = some l[j]:=JP hlt;generalize l[j]=t at hr hxx;have wj:=aH hlt (show l.length≤9223372036854775807 by omega);by_cases e:t=s
  ·rw[decide_eq_true e,Bool.true_or]at hr;rw[hr];simp -dsimp -implicitDefEqProofs only[aw,V.copy,JV,eq_self,reduceIte,reduceCtorEq,JT,JU,JS,JJ,hlt,decide_true,hxx,decide_eq_true e];first|exact ac hb rfl rfl JL ⟨rfl,rfl⟩|exact ac hb rfl rfl JM ⟨rfl,rfl⟩
  ·rw[decide_eq_false e,Bool.false_or]at hr;simp -dsimp -implicitDefEqProofs only[aw,V.copy,JV,eq_self,reduceIte,reduceCtorEq,JT,JU,JS,JJ,hlt,decide_true,hxx,decide_eq_false e,wj];exact Nxt.same (JX _) hb (by simp[aq,V.under]) ⟨rfl,rfl,hr⟩
 ·rw[JQ (by omega)]at hr;have h1:inB s []=false:=rfl;rw[h1]at hr;rw[hr];simp -dsimp -implicitDefEqProofs only[aw,V.copy,eq_self,reduceIte,reduceCtorEq,JT,JU,JS,JJ,hlt,decide_false];first|exact ac hb rfl rfl JL ⟨rfl,rfl⟩|exact ac hb rfl rfl JM ⟨rfl,rfl⟩
end Go.Proofs.YthoebpnbhgmoiaaGreatDoor
