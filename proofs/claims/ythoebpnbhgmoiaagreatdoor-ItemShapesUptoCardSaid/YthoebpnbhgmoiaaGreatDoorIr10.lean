import Derived.Test.YthoebpnbhgmoiaaGreatDoorIr5
import Derived.Test.YthoebpnbhgmoiaaGreatDoorIt6
import Derived.Test.YthoebpnbhgmoiaaGreatDoorClo
import Derived.Test.YthoebpnbhgmoiaaGreatDoorIw4
set_option linter.unusedVariables false
set_option linter.unusedSimpArgs false
set_option linter.unusedSectionVars false
open Bool renaming false_ne_true→JH,true_and→JI
open Int renaming ofNat_lt→JJ,reduceEq→JK
open List renaming take_length→JL,take_left→JM,getElem_mem→JO,drop_eq_getElem_cons→JP,getElem?_eq_getElem→JQ,drop_eq_nil_of_le→JR,map_cons→JS,map_nil→JT
open Nat renaming reduceEqDiff→JU,reduceBEq→JV,reduceLT→JW,reduceLeDiff→JX,reduceAdd→JY
namespace Go.Proofs.YthoebpnbhgmoiaaGreatDoor
open Go.RowKit
theorem j5{s:ByteArray}(h:bv s=true):s.size≤1000:=by
 unfold bv at h;rw[Bool.or_eq_true]at h;rcases h with h|h
 ·obtain⟨h4,hA,-⟩:=oA h;simp only[dm,Bool.and_eq_true]at h;have:=dC h.1.2;rw[hA,ByteArray.size_extract]at this;omega
 ·have:=dC h;omega
set_option maxHeartbeats 2000000 in
theorem pt(e:Ex)(c:Cl)(bd:List ByteArray)(hs:aA e≤1000000)(hv:nQ e)(hc:c.fields.length≤1000000)(hbd:bd.length≤1000000)(σ:List (List V)):Fun G 51 [vex e,vcl c,.d (aQ bd)] σ (aO (.d (ah (dB aM (au c) bd e))) σ):=by
 refine ao Tryz.func51 k51 (by simp only[am];rfl) fun hb hw=>?_;delta c51 oM oV kI kS kT kF;have hn:=fun σ=>nB e hs σ;simp only[am]at hn;have hnl:=gV e;unfold nQ at hv;simp -dsimp -implicitDefEqProofs only[aw,aj,V.copy,V.lend,V.lend1,V.cells,V.boxable,JX,eq_self,reduceIte,reduceCtorEq,JV,JW,JU,JY,am];refine ae (hn _) ?_;simp -dsimp -implicitDefEqProofs only[aw,V.copy,eq_self,reduceIte,JV,JW,JU];unfold dB;generalize bj e=N at hnl hv ⊢
 refine bC (R:=fun(j:Nat) ρ σ'=>ρ=[(2,.d (aQ bd)),(4,.ptr (σ.length+1) 0),(7,.d (.sl (N.map dex))),(8,aL .i64 j)]∧σ'=σ++[[.d (ah e.op),.d (ah e.num),.d (al e.name),.d (.sl (e.args.map dex))],em c]∧
  dL (N.map (cj aM (au c) bd))=dL ((N.drop j).map (cj aM (au c) bd))) N.length ⟨rfl,rfl,rfl⟩ ?_ _
 rintro j ρ' σ' hj ⟨rfl,rfl,hr⟩;by_cases hlt:j<N.length
 ·have hx:N[j]? = some N[j]:=JQ hlt;have wj:=aH hlt (show N.length≤9223372036854775807 by omega);rw[JP hlt,JS,lw]at hr;have hm:=hv _ (JO hlt);generalize N[j]=x at hx hr hm;have hend:∀(k:Int),cj aM (au c) bd x=k→k=0→dL (N.map (cj aM (au c) bd))=dL ((N.drop (j+1)).map (cj aM (au c) bd)):=fun k h1 h2=>by rw[h1,if_pos h2]at hr;exact hr
  have hend2:∀(k:Int),cj aM (au c) bd x=k→¬k=0→dL (N.map (cj aM (au c) bd))=k:=fun k h1 h2=>by rw[h1,if_neg h2]at hr;exact hr
  by_cases n2:x.op=2
  ·cases hi:inB x.name bd with
   | true=>
    have hk:cj aM (au c) bd x=0:=by unfold cj;rw[if_pos n2,hi];rfl
    simp -dsimp -implicitDefEqProofs only[aw,V.copy,V.lend,JX,eq_self,reduceIte,JV,JW,JU,JY,JJ,hlt,decide_true,hx,aT x,n2];refine ae (fF bd x.name hbd _) ?_;simp -dsimp -implicitDefEqProofs only[aw,V.copy,JX,cond_true,cond_false,eq_self,reduceIte,JV,JW,JU,JY,hi,hx,aT x,n2,wj,decide_true,JK,decide_false];exact⟨hlt,Nxt.same (by simp) (an hb rfl) (by simp[aq,V.under]) ⟨rfl,rfl,hend _ hk rfl⟩⟩
   | false=>
    have hk:cj aM (au c) bd x=ef aM (au c) x.name:=by unfold cj;rw[if_pos n2,hi];rfl
    have hsz:=j5 (hm n2);simp -dsimp -implicitDefEqProofs only[aw,V.copy,V.lend,JX,eq_self,reduceIte,JV,JW,JU,JY,JJ,hlt,decide_true,hx,aT x,n2];refine ae (fF bd x.name hbd _) ?_;simp -dsimp -implicitDefEqProofs only[aw,V.copy,V.lend,V.lend1,JX,cond_true,eq_self,reduceIte,JV,JW,JU,JY,hi,hx,aT x];refine aZ (jk c x.name (by omega) hc _) ?_;by_cases h0:ef aM (au c) x.name=0
    ·simp -dsimp -implicitDefEqProofs only[aw,V.copy,JX,cond_false,eq_self,reduceIte,JV,JW,JU,JY,h0,hx,aT x,n2,wj,decide_true,JK,decide_false];exact⟨hlt,Nxt.same (by simp) (an hb rfl) (by simp[aq,V.under]) ⟨rfl,rfl,hend _ hk h0⟩⟩
    ·rw[hend2 _ hk h0];simp -dsimp -implicitDefEqProofs only[aw,V.copy,JX,cond_false,eq_self,reduceIte,JV,JW,JU,JY,decide_eq_false h0,hx,aT x,n2,JK,decide_false];first|exact ac hb rfl rfl JL ⟨rfl,rfl⟩|exact ac hb rfl rfl JM ⟨rfl,rfl⟩
  ·by_cases n3:x.op=3∨x.op=24
   ·have hk:cj aM (au c) bd x=dN (au c) x.name:=by unfold cj;rw[if_neg n2,if_pos n3]
    rcases n3 with n3|n3
    all_goals
     simp -dsimp -implicitDefEqProofs only[aw,V.copy,V.lend,V.lend1,JX,cond_false,eq_self,reduceIte,JV,JW,JU,JY,JJ,hlt,decide_true,hx,aT x,n3,JK,decide_false];refine aZ (js c x.name hc _) ?_;by_cases h0:dN (au c) x.name=0
     ·simp -dsimp -implicitDefEqProofs only[aw,V.copy,eq_self,reduceIte,JV,JW,JU,h0,wj,decide_true];exact⟨hlt,Nxt.same (by simp) (an hb rfl) (by simp[aq,V.under]) ⟨rfl,rfl,hend _ hk h0⟩⟩
     ·rw[hend2 _ hk h0];simp -dsimp -implicitDefEqProofs only[aw,V.copy,eq_self,reduceIte,JV,JW,JU,decide_eq_false h0];first|exact ac hb rfl rfl JL ⟨rfl,rfl⟩|exact ac hb rfl rfl JM ⟨rfl,rfl⟩
   ·have hk:cj aM (au c) bd x=0:=by unfold cj;rw[if_neg n2,if_neg n3]
    have m3:¬x.op=3:=fun h=>n3 (.inl h);have m24:¬x.op=24:=fun h=>n3 (.inr h);simp -dsimp -implicitDefEqProofs only[aw,V.copy,JX,cond_false,eq_self,reduceIte,JV,JW,JU,JY,JJ,hlt,decide_true,hx,aT x,decide_eq_false n2,decide_eq_false m3,decide_eq_false m24,wj];exact Nxt.same (by simp) (an hb rfl) (by simp[aq,V.under]) ⟨rfl,rfl,hend _ hk rfl⟩
 ·rw[JR (by omega)]at hr;rw[hr];simp -dsimp -implicitDefEqProofs only[aw,V.copy,eq_self,reduceIte,JV,JW,JU,JJ,hlt,decide_false];first|exact ac hb rfl rfl JL ⟨rfl,rfl⟩|exact ac hb rfl rfl JM ⟨rfl,rfl⟩
set_option maxHeartbeats 2000000 in
theorem Ad(x:It)(c:Cl)(d:Nat)(bd:List ByteArray)(hbig:eO x≤1000000)(hsh:bp x d=0)(hc:c.fields.length≤1000000)(hbd:bd.length≤1000000)(σ:List (List V)):
 Fun G 71 [vit x,vcl c,.d (aQ bd)] σ (aO (.d (ah (dY aM (au c) x d bd))) σ):=by
 have hb0:=bI x;refine ao Tryz.func71 k71 (by simp only[aK];rfl) fun hb hw=>?_;delta c71 oM oV kI kS kT kF;by_cases k3:x.kind=3
 ·have hv:=mF hsh (.inl k3) bd x.name (by unfold cy;rw[if_neg (by omega),if_pos (.inl k3)];simp);have hnm:=fun σ=>ib c [x.name] (by simp) (fun s hs=>by rw[List.mem_singleton.1 hs];have:=j5 hv;omega) hc σ;have hone:dY aM (au c) x d bd=if dg aM (au c) x.name=true then 0 else 7:=by unfold dY;rw[if_pos k3]
  simp only[aQ,JS,JT,List.all_cons,List.all_nil,Bool.and_true]at hnm;rw[hone];simp -dsimp -implicitDefEqProofs only[aw,aj,V.copy,V.lend,V.lend1,V.cells,V.boxable,aC,aF,V.plain,JX,eq_self,reduceIte,reduceCtorEq,JV,JW,JU,JY,aK,k3,decide_true];refine ae (hnm _) ?_;cases he:dg aM (au c) x.name with
  | true=>
   rw[if_pos rfl];simp -dsimp -implicitDefEqProofs only[aw,V.copy,eq_self,reduceIte,JV,JW,JU];first|exact ac hb rfl rfl JL ⟨rfl,rfl⟩|exact ac hb rfl rfl JM ⟨rfl,rfl⟩
  | false=>
   rw[if_neg JH];simp -dsimp -implicitDefEqProofs only[aw,V.copy,eq_self,reduceIte,JV,JW,JU];first|exact ac hb rfl rfl JL ⟨rfl,rfl⟩|exact ac hb rfl rfl JM ⟨rfl,rfl⟩
 by_cases k6:x.kind=6
 ·have hv:=mF hsh (.inr k6) bd;have ho:cy x bd=x.bef++x.aft:=by unfold cy;rw[if_neg (by omega),if_neg (by omega),if_pos k6]
  rw[ho]at hv;have hB:=fun σ=>ib c x.bef (by omega) (fun s hs=>by have:=j5 (hv s (List.mem_append_left _ hs));omega) hc σ;have hA:=fun σ=>ib c x.aft (by omega) (fun s hs=>by have:=j5 (hv s (List.mem_append_right _ hs));omega) hc σ;have hone:dY aM (au c) x d bd=if(x.bef.all (dg aM (au c))&&x.aft.all (dg aM (au c)))=true then 0 else 7:=by unfold dY;rw[if_neg k3,if_pos k6,List.all_append]
  simp only[aQ]at hA hB;rw[hone];simp -dsimp -implicitDefEqProofs only[aw,aj,V.copy,V.lend,V.lend1,V.cells,V.boxable,JX,eq_self,reduceIte,reduceCtorEq,JV,JW,JU,JY,aK,k6,JK,decide_true,decide_false];refine ae (hB _) ?_;cases h1:x.bef.all (dg aM (au c))with
  | false=>
   rw[Bool.false_and,if_neg JH];simp -dsimp -implicitDefEqProofs only[aw,V.copy,eq_self,reduceIte,JV,JW,JU];first|exact ac hb rfl rfl JL ⟨rfl,rfl⟩|exact ac hb rfl rfl JM ⟨rfl,rfl⟩
  | true=>
   simp -dsimp -implicitDefEqProofs only[aw,V.copy,V.lend,V.lend1,JX,eq_self,reduceIte,JW,JU,JY];refine ae (hA _) ?_;cases h2:x.aft.all (dg aM (au c))with
   | false=>
    rw[JI,if_neg JH];simp -dsimp -implicitDefEqProofs only[aw,V.copy,cond_false,eq_self,reduceIte,JV,JW,JU];first|exact ac hb rfl rfl JL ⟨rfl,rfl⟩|exact ac hb rfl rfl JM ⟨rfl,rfl⟩
   | true=>
    rw[JI,if_pos rfl];simp -dsimp -implicitDefEqProofs only[aw,V.copy,cond_false,eq_self,reduceIte,JV,JW,JU];first|exact ac hb rfl rfl JL ⟨rfl,rfl⟩|exact ac hb rfl rfl JM ⟨rfl,rfl⟩
 by_cases k5:x.kind=5
 ·have e1:dY aM (au c) x d bd=if dN (au c) x.name≠0 then dN (au c) x.name else if(fsz (au c) x.idx).isSome=true∨inB x.idx bd=true then 8 else 0:=by
   unfold dY;rw[if_neg k3,if_neg k6,if_pos k5]
  rw[e1];simp -dsimp -implicitDefEqProofs only[aw,aj,V.copy,V.lend,V.lend1,V.cells,V.boxable,JX,eq_self,ne_eq,reduceIte,reduceCtorEq,JV,JW,JU,JY,aK,k5,JK,decide_true,decide_false];refine ae (js c x.name hc _) ?_;by_cases h0:dN (au c) x.name=0
  ·rw[if_neg (by simp[h0])];simp -dsimp -implicitDefEqProofs only[aw,V.copy,V.lend,V.lend1,JX,eq_self,reduceIte,JV,JW,JU,JY,h0,decide_true];refine ae (eR c x.idx hc _) ?_;cases hf:fsz (au c) x.idx with
   | some n=>
    rw[if_pos (.inl rfl)];simp -dsimp -implicitDefEqProofs only[aw,V.copy,eq_self,reduceIte,JV,JW,JU,Option.getD_some,Option.isSome_some];first|exact ac hb rfl rfl JL ⟨rfl,rfl⟩|exact ac hb rfl rfl JM ⟨rfl,rfl⟩
   | none=>
    simp -dsimp -implicitDefEqProofs only[aw,V.copy,V.lend,JX,eq_self,reduceIte,JV,JW,JU,JY,Option.getD_none,Option.isSome_none];refine ae (fF bd x.idx hbd _) ?_;cases hi:inB x.idx bd with
    | true=>
     rw[if_pos (.inr rfl)];simp -dsimp -implicitDefEqProofs only[aw,V.copy,cond_false,eq_self,reduceIte,JV,JW,JU];first|exact ac hb rfl rfl JL ⟨rfl,rfl⟩|exact ac hb rfl rfl JM ⟨rfl,rfl⟩
    | false=>
     rw[if_neg (by simp)];simp -dsimp -implicitDefEqProofs only[aw,V.copy,cond_false,eq_self,reduceIte,JV,JW,JU];first|exact ac hb rfl rfl JL ⟨rfl,rfl⟩|exact ac hb rfl rfl JM ⟨rfl,rfl⟩
  ·rw[if_pos h0];simp -dsimp -implicitDefEqProofs only[aw,V.copy,eq_self,reduceIte,JV,JW,JU,decide_eq_false h0];first|exact ac hb rfl rfl JL ⟨rfl,rfl⟩|exact ac hb rfl rfl JM ⟨rfl,rfl⟩
 have e1:dY aM (au c) x d bd=dB aM (au c) bd x.ex:=by unfold dY;rw[if_neg k3,if_neg k6,if_neg k5]
 have hve:aX x.ex=0:=by have:=gM hsh;rw[if_neg k3,if_neg k6,if_neg k5]at this;exact this
 rw[e1];have hx:=fun σ=>pt x.ex c bd (by omega) (jY _ (cw hve)) hc hbd σ;simp only[am,aQ]at hx;simp -dsimp -implicitDefEqProofs only[aw,aj,V.copy,V.lend,V.lend1,V.cells,V.boxable,JX,eq_self,reduceIte,reduceCtorEq,JV,JW,JU,JY,aK,decide_eq_false k3,decide_eq_false k6,decide_eq_false k5];refine ae (hx _) ?_;simp -dsimp -implicitDefEqProofs only[aw,V.copy,eq_self,reduceIte,JV,JW,JU];first|exact ac hb rfl rfl JL ⟨rfl,rfl⟩|exact ac hb rfl rfl JM ⟨rfl,rfl⟩
theorem Bg(x:It)(bd:List ByteArray):(bnd x bd).length≤bd.length+1:=by
 unfold bnd;split<;>simp
set_option maxHeartbeats 2000000 in
theorem rc(c:Cl)(hc:c.fields.length≤1000000):∀l:List It,bu l≤1000000→∀(d:Nat),rvl l d=0→∀(bd:List ByteArray),bd.length+bu l≤1000000→∀σ,Fun G 39 [.d (de l),vcl c,.d (aQ bd)] σ (aO (.d (ah (wkE (dY aM (au c)) l d bd))) σ):=by
 refine fe fun l ih hs d hv bd hbd σ=>?_;have hln:=eV l;refine ao Tryz.func39 k39 rfl fun hb hw=>?_;delta c39 oM oV kI kS kT kF;simp -dsimp -implicitDefEqProofs only[aw,aj,V.copy,V.cells,V.boxable,eq_self,reduceIte,reduceCtorEq,JV,JW,JU,JY];refine bC (R:=fun(j:Nat) ρ σ'=>ρ=[(0,.d (de l)),(2,.d (aQ bd)),(4,.ptr σ.length 0),(7,aL .i64 j)]∧σ'=σ++[em c]∧wkE (dY aM (au c)) l d bd=wkE (dY aM (au c)) (l.drop j) d bd) l.length ⟨rfl,rfl,rfl⟩ ?_ _;rintro j ρ' σ' hj ⟨rfl,rfl,hr⟩;by_cases hlt:j<l.length
 ·rw[JP hlt,jJ]at hr;obtain⟨i1,i2⟩:=ih _ (JO hlt);have hm:=cm (JO hlt);have hxx:l[j]? = some l[j]:=JQ hlt;obtain⟨s1,s2,s3⟩:=jF hv (JO hlt);generalize l[j]=x at hr i1 i2 hm hxx s1 s2 s3;have hbx:=bI x;have hbl:=Bg x bd;have hon:=fun σ=>Ad x c d bd (by omega) s1 hc (by omega) σ;have hin:=fun σ=>oX x bd (by omega) σ;have h1:=fun σ=>i1 (by omega) (d+1) s2 (bnd x bd) (by omega) σ;have h2:=fun σ=>i2 (by omega) (d+1) s3 bd (by omega) σ;rw[ut aM (au c) x.items (dep x d) (d+1),ut aM (au c) x.els (dep x d) (d+1)]at hr;have wj:=aH hlt (show l.length≤9223372036854775807 by omega);simp only[aK]at hon hin
  simp -dsimp -implicitDefEqProofs only[aw,V.copy,V.lend,V.lend1,JX,eq_self,reduceIte,reduceCtorEq,JV,JW,JU,JY,JJ,hlt,decide_true,hxx,cr x];refine aZ (hon _) ?_;by_cases q1:dY aM (au c) x d bd=0
  case neg=>
   rw[if_neg q1]at hr;rw[hr];simp -dsimp -implicitDefEqProofs only[aw,V.copy,eq_self,reduceIte,reduceCtorEq,JV,JW,JU,decide_eq_false q1];first|exact ac hb rfl rfl JL ⟨rfl,rfl⟩|exact ac hb rfl rfl JM ⟨rfl,rfl⟩
  rw[if_pos q1]at hr;simp -dsimp -implicitDefEqProofs only[aw,V.copy,V.lend,V.lend1,JX,eq_self,reduceIte,reduceCtorEq,JV,JW,JU,JY,q1,decide_true,hxx,cr x];refine aZ (hin _) ?_;simp -dsimp -implicitDefEqProofs only[aw,V.lend,V.lend1,eq_self,reduceIte,reduceCtorEq,JW,JU];refine aZ (h1 _) ?_;by_cases q2:wkE (dY aM (au c)) x.items (d+1) (bnd x bd)=0
  case neg=>
   rw[if_neg q2]at hr;rw[hr];simp -dsimp -implicitDefEqProofs only[aw,V.copy,eq_self,reduceIte,reduceCtorEq,JV,JW,JU,decide_eq_false q2];first|exact ac hb rfl rfl JL ⟨rfl,rfl⟩|exact ac hb rfl rfl JM ⟨rfl,rfl⟩
  rw[if_pos q2]at hr;simp -dsimp -implicitDefEqProofs only[aw,V.copy,V.lend,V.lend1,JX,eq_self,reduceIte,reduceCtorEq,JV,JW,JU,JY,q2,decide_true,hxx,cr x];refine aZ (h2 _) ?_;by_cases q3:wkE (dY aM (au c)) x.els (d+1) bd=0
  case neg=>
   rw[if_neg q3]at hr;rw[hr];simp -dsimp -implicitDefEqProofs only[aw,V.copy,eq_self,reduceIte,reduceCtorEq,JV,JW,JU,decide_eq_false q3];first|exact ac hb rfl rfl JL ⟨rfl,rfl⟩|exact ac hb rfl rfl JM ⟨rfl,rfl⟩
  rw[if_pos q3]at hr;simp -dsimp -implicitDefEqProofs only[aw,V.copy,eq_self,reduceIte,reduceCtorEq,JV,JW,JU,q3,decide_true,wj];exact⟨hlt,Nxt.same (by simp) (an hb rfl) (by simp[aq,V.under]) ⟨rfl,rfl,hr⟩⟩
 ·rw[JR (by omega),pM]at hr;rw[hr];simp -dsimp -implicitDefEqProofs only[aw,V.copy,eq_self,reduceIte,reduceCtorEq,JV,JW,JU,JJ,hlt,decide_false];first|exact ac hb rfl rfl JL ⟨rfl,rfl⟩|exact ac hb rfl rfl JM ⟨rfl,rfl⟩
theorem qS(l:List It)(c:Cl)(hl:bu l≤900000)(hc:c.fields.length≤1000000)(σ:List (List V)):Fun G 13 [.d (de l),vcl c] σ (aO (.d (ah (gP aM (au c) l))) σ):=by
 refine ao Tryz.func13 k13 rfl fun hb hw=>?_;delta c13 oM oV kI kS kT kF;unfold gP;simp -dsimp -implicitDefEqProofs only[aw,aj,V.copy,V.lend,V.cells,V.boxable,eq_self,ne_eq,reduceIte,reduceCtorEq,JV,JW,JU];refine ae (lK l hl _) ?_;by_cases h0:fp l=0
 ·rw[if_neg (by simp[h0])]
  have hv:rvl l 0=0:=by
   unfold fp at h0;split at h0
   ·cases h0
   ·exact h0
  have hch:=fun σ=>rc c hc l (by omega) 0 hv [] (by simp;omega) σ;simp only[aQ,JT]at hch;simp -dsimp -implicitDefEqProofs only[aw,V.copy,V.lend,V.lend1,JX,eq_self,reduceIte,reduceCtorEq,JV,JW,JU,JY,h0,decide_true];refine ae (hch _) ?_;simp -dsimp -implicitDefEqProofs only[aw,V.copy,eq_self,reduceIte,reduceCtorEq,JV,JW,JU];first|exact ac hb rfl rfl JL ⟨rfl,rfl⟩|exact ac hb rfl rfl JM ⟨rfl,rfl⟩
 ·rw[if_pos h0];simp -dsimp -implicitDefEqProofs only[aw,V.copy,eq_self,reduceIte,reduceCtorEq,JV,JW,JU,decide_eq_false h0];first|exact ac hb rfl rfl JL ⟨rfl,rfl⟩|exact ac hb rfl rfl JM ⟨rfl,rfl⟩
end Go.Proofs.YthoebpnbhgmoiaaGreatDoor
