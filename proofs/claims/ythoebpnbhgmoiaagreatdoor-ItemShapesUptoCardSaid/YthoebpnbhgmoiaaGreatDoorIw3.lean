import Derived.Test.YthoebpnbhgmoiaaGreatDoorIwk
import Derived.Test.YthoebpnbhgmoiaaGreatDoorSha
set_option linter.unusedVariables false
set_option linter.unusedSimpArgs false
set_option linter.unusedSectionVars false
open Int renaming ofNat_lt→JH,reduceEq→JI
open List renaming take_length→JJ,take_left→JK,getElem?_eq_getElem→JL,map_append→JM,length_map→JO,append_nil→JP,map_cons→JQ
open Nat renaming reduceEqDiff→JR,reduceBEq→JS,reduceLT→JT,reduceLeDiff→JU,reduceAdd→JV
namespace Go.Proofs.YthoebpnbhgmoiaaGreatDoor
open Go.RowKit
theorem oF{α β:Type}(f:α→List β)(l:List α){j:Nat}(h:j<l.length):(l.take (j+1)).flatMap f=(l.take j).flatMap f++f l[j]:=by
 rw[List.take_add_one,JL h,List.flatMap_append];simp
theorem qp(bd:List ByteArray)(e:Ex):(aV bd e).length≤1:=by unfold aV;split<;>simp
theorem fS(bd:List ByteArray)(l:List Ex):(l.flatMap (aV bd)).length≤l.length:=by
 induction l with
 | nil=>simp
 | cons a r ih=>rw[List.flatMap_cons,List.length_append,List.length_cons];have:=qp bd a;omega
set_option maxHeartbeats 2000000 in
theorem jm(x:It)(d:Nat)(bd:List ByteArray)(hbig:eO x≤1000000)(σ:List (List V)):Fun G 59 [vit x,mu d bd] σ (aO (.d (aQ (cy x bd))) σ):=by
 have hb0:=bI x;refine ao Tryz.func59 k59 (by simp only[aK];rfl) fun hb hw=>?_;delta c59 oM oV kI kS kT kF;have hn:=fun σ=>oE x.ex (by omega) σ;simp only[am]at hn;have hnl:=dW x.ex;by_cases k1:x.kind=1∨x.kind=2∨x.kind=4
 ·have e1:cy x bd=(bj x.ex).flatMap (aV bd):=by unfold cy;rw[if_pos k1]
  rw[e1];rcases k1 with k1|k1|k1
  all_goals
   simp -dsimp -implicitDefEqProofs only[aw,aj,V.copy,V.lend,V.lend1,V.cells,V.boxable,JU,eq_self,reduceIte,reduceCtorEq,JS,JT,JR,JV,aK,k1,JI,decide_true,decide_false];refine ae (hn _) ?_;simp -dsimp -implicitDefEqProofs only[aw,V.copy,eq_self,reduceIte,JS,JT,JR];generalize bj x.ex=N at hnl ⊢
   refine cU [3,5,16,17,18] (R:=fun(j:Nat) ρ σ'=>ρ=[(3,.ptr (σ.length+1) 0),(5,.own 9 1 (((N.take j).flatMap (aV bd)).map fun s=>[al s])),(16,.d (.sl (N.map dex))),(17,aL .i64 N.length),(18,aL .i64 j)]∧
    σ'=σ++[[.d (ah x.kind),.d (ah x.ex.op),.d (ah x.ex.num),.d (al x.ex.name),.d (.sl (x.ex.args.map dex)),.d (al x.name),.d (al x.idx),.d (.sl (x.ws.map dwt)),.d (.sl (x.items.map dit)),.d (.sl (x.els.map dit)),.d (.sl (x.bef.map fun s=>[al s])),.d (.sl (x.aft.map fun s=>[al s]))],[.d (ah d),.d (.sl (bd.map fun s=>[al s]))]]) N.length ⟨rfl,by rw[k1]⟩ ?_ _
   rintro j ρ' σ' hj ⟨rfl,rfl⟩;by_cases hlt:j<N.length
   ·have ht:=oF (aV bd) N hlt;have hle:=fS bd (N.take j);rw[List.length_take]at hle;have hx:N[j]? = some N[j]:=JL hlt;have wj:=aH hlt (show N.length≤9223372036854775807 by omega);generalize N[j]=e at hx ht;have e3:∀a b c:List V,σ++[a,b,c]=(σ++[a,b])++[c]:=fun a b c=>by simp
    have hbb:∀a b:List V,V.unders (σ.length+2) a=true→V.unders (σ.length+2) b=true→ay (σ++[a,b]).length (σ++[a,b])=true:=fun a b h1 h2=>an hb (by simp[h1,h2]);by_cases n1:e.op=3∨e.op=24
    ·have hnm:aV bd e=[e.name]:=by unfold aV;rw[if_pos (by omega)]
     rw[hnm]at ht;rcases n1 with n1|n1
     all_goals
      simp -dsimp -implicitDefEqProofs only[aw,V.copy,V.cells,V.boxable,over,aC,aF,V.plain,JU,cond_false,eq_self,reduceIte,JS,JT,JR,JV,JH,hlt,decide_true,hx,aT e,n1,JI,decide_false];refine bt (by first|omega|(simp only[JO];omega)) ?_;simp -dsimp -implicitDefEqProofs only[aw,V.copy,eq_self,reduceIte,JS,JT,JR,wj];rw[e3];exact⟨hlt,Nxt.drop (by simp) (hbb _ _ rfl rfl) (by simp[aq,V.under]) ⟨by rw[ht,JM];rfl,rfl⟩⟩
    ·have n3:¬e.op=3:=fun h=>n1 (.inl h);have n24:¬e.op=24:=fun h=>n1 (.inr h);by_cases n2:e.op=2
     ·simp -dsimp -implicitDefEqProofs only[aw,V.copy,V.lend,V.cells,V.boxable,over,JU,cond_false,eq_self,reduceIte,JS,JT,JR,JV,JH,hlt,decide_true,hx,aT e,n2,JI,decide_false];refine ae (ew bd e.name _) ?_;cases hi:inB e.name bd with
      | true=>
       have hnm:aV bd e=[]:=by unfold aV;rw[if_neg];rw[hi];simp[n2]
       rw[hnm,JP]at ht;simp -dsimp -implicitDefEqProofs only[aw,V.copy,cond_true,cond_false,eq_self,reduceIte,JS,JT,JR,wj];rw[e3];exact⟨hlt,Nxt.drop (by simp) (hbb _ _ rfl rfl) (by simp[aq,V.under]) ⟨by rw[ht],rfl⟩⟩
      | false=>
       have hnm:aV bd e=[e.name]:=by unfold aV;rw[if_pos];exact .inr (.inr ⟨n2,hi⟩)
       rw[hnm]at ht;simp -dsimp -implicitDefEqProofs only[aw,V.copy,V.cells,aC,aF,V.plain,JU,cond_true,cond_false,eq_self,reduceIte,JS,JT,JR,JV];refine bt (by first|omega|(simp only[JO];omega)) ?_;simp -dsimp -implicitDefEqProofs only[aw,V.copy,eq_self,reduceIte,JS,JT,JR,wj];rw[e3];exact⟨hlt,Nxt.drop (by simp) (hbb _ _ rfl rfl) (by simp[aq,V.under]) ⟨by rw[ht,JM];rfl,rfl⟩⟩
     ·have hnm:aV bd e=[]:=by unfold aV;rw[if_neg];omega
      rw[hnm,JP]at ht;simp -dsimp -implicitDefEqProofs only[aw,V.copy,V.cells,V.boxable,over,JU,cond_false,eq_self,reduceIte,JS,JT,JR,JV,JH,hlt,decide_true,hx,aT e,decide_eq_false n2,decide_eq_false n3,decide_eq_false n24,wj];rw[e3];exact Nxt.drop (by simp) (hbb _ _ rfl rfl) (by simp[aq,V.under]) ⟨by rw[ht],rfl⟩
   ·simp -dsimp -implicitDefEqProofs only[aw,V.copy,eq_self,reduceIte,reduceCtorEq,JS,JT,JR,JH,hlt,decide_false];rw[List.take_of_length_le (by omega)];first|exact ac hb rfl rfl JJ ⟨rfl,rfl⟩|exact ac hb rfl rfl JK ⟨rfl,rfl⟩
 ·have m1:¬x.kind=1:=fun h=>k1 (.inl h);have m2:¬x.kind=2:=fun h=>k1 (.inr (.inl h));have m4:¬x.kind=4:=fun h=>k1 (.inr (.inr h));by_cases k3:x.kind=3∨x.kind=5
  ·have e1:cy x bd=[x.name]:=by unfold cy;rw[if_neg k1,if_pos k3]
   rw[e1];rcases k3 with k3|k3
   all_goals
    simp -dsimp -implicitDefEqProofs only[aw,aj,V.copy,V.cells,V.boxable,aC,aF,V.plain,JU,eq_self,reduceIte,reduceCtorEq,JS,JT,JR,JV,Nat.reduceMul,aK,k3,JI,decide_true,decide_false];first|exact ac hb rfl rfl JJ ⟨rfl,rfl⟩|exact ac hb rfl rfl JK ⟨rfl,rfl⟩
  ·have m3:¬x.kind=3:=fun h=>k3 (.inl h);have m5:¬x.kind=5:=fun h=>k3 (.inr h);by_cases k6:x.kind=6
   ·have e1:cy x bd=x.bef++x.aft:=by unfold cy;rw[if_neg k1,if_neg k3,if_pos k6]
    rw[e1];simp -dsimp -implicitDefEqProofs only[aw,aj,V.copy,V.lend,V.cells,V.boxable,aC,aF,V.plain,JU,eq_self,reduceIte,reduceCtorEq,JS,JT,JR,JV,aK,k6,JI,decide_true,decide_false];have hcc:=fun σ=>mS [x.bef,x.aft] (by simp;omega) (by simp) σ;simp only[JQ,List.map_nil]at hcc;refine ae (hcc _) ?_;simp -dsimp -implicitDefEqProofs only[aw,V.copy,eq_self,reduceIte,JS,JT,JR];have e2:[x.bef,x.aft].flatten=x.bef++x.aft:=by simp
    rw[e2];first|exact ac hb rfl rfl JJ ⟨rfl,rfl⟩|exact ac hb rfl rfl JK ⟨rfl,rfl⟩
   ·have e1:cy x bd=[]:=by unfold cy;rw[if_neg k1,if_neg k3,if_neg k6]
    rw[e1];simp -dsimp -implicitDefEqProofs only[aw,aj,V.copy,V.cells,V.boxable,JU,eq_self,reduceIte,reduceCtorEq,JS,JT,JR,JV,aK,decide_eq_false m1,decide_eq_false m2,decide_eq_false m3,decide_eq_false m4,decide_eq_false m5,decide_eq_false k6];first|exact ac hb rfl rfl JJ ⟨rfl,rfl⟩|exact ac hb rfl rfl JK ⟨rfl,rfl⟩
theorem lw(a:Int)(l:List Int):dL (a::l)=if a=0 then dL l else a:=by
 unfold dL;rw[List.find?_cons];by_cases h:a=0
 ·rw[if_pos h];simp[h]
 ·rw[if_neg h];simp[h]
def nQ(e:Ex):Prop:=∀n,n∈bj e→n.op=2→bv n.name=true
theorem jY(e:Ex):ed e=0→nQ e:=by
 induction e using Ex.ind with
 | h o m s l ih=>
 intro he n hn ho;obtain⟨h1,h2⟩:=fE he;rw[bj]at hn;rcases List.mem_cons.1 hn with rfl|hn
 ·exact(kK h1).2.2.2.2.1 ho
 ·obtain⟨a,ha,hn⟩:=dV.1 hn;exact ih a ha (fg h2 a ha) n hn ho
set_option maxHeartbeats 2000000 in
theorem iu(i:Nat)(fs:List (ByteArray×Int))(hp:Sz8 fs)(e:Ex)(bd:List ByteArray)(hs:aA e≤1000000)(hv:nQ e)(σ:List (List V))(h:FB σ i fs):Fun G 48 [.mp i,vex e,.d (aQ bd)] σ (aO (.d (ah (dB aM fs bd e))) σ):=by
 refine ao Tryz.func48 k48 (by simp only[am];rfl) fun hb hw=>?_;delta c48 oM oV kI kS kT kF;have hn:=fun σ=>oE e hs σ;simp only[am]at hn;have hnl:=dW e;unfold nQ at hv;simp -dsimp -implicitDefEqProofs only[aw,aj,V.copy,V.lend,V.lend1,V.cells,V.boxable,JU,eq_self,reduceIte,reduceCtorEq,JS,JT,JR,JV,am];refine ae (hn _) ?_;simp -dsimp -implicitDefEqProofs only[aw,V.copy,eq_self,reduceIte,reduceCtorEq,JS,JT,JR];unfold dB;generalize bj e=N at hnl hv ⊢;have hil:=h.lt
 refine cU [0,2,11,12,13] (R:=fun(j:Nat) ρ σ'=>ρ=[(0,.mp i),(2,.d (aQ bd)),(11,.d (.sl (N.map dex))),(12,aL .i64 N.length),(13,aL .i64 j)]∧σ'=σ++[[.d (ah e.op),.d (ah e.num),.d (al e.name),.d (.sl (e.args.map dex))]]∧
  dL (N.map (cj aM fs bd))=dL ((N.drop j).map (cj aM fs bd))) N.length ⟨rfl,rfl,rfl⟩ ?_ _
 rintro j ρ' σ' hj ⟨rfl,rfl,hr⟩;by_cases hlt:j<N.length
 ·have hx:N[j]? = some N[j]:=JL hlt;have wj:=aH hlt (show N.length≤9223372036854775807 by omega);rw[List.drop_eq_getElem_cons hlt,JQ,lw]at hr;have hm:=hv _ (List.getElem_mem hlt);generalize N[j]=x at hx hr hm;have e3:∀a b:List V,σ++[a,b]=(σ++[a])++[b]:=fun a b=>by simp
  have hend:∀(c:Int),cj aM fs bd x=c→c=0→dL (N.map (cj aM fs bd))=dL ((N.drop (j+1)).map (cj aM fs bd)):=fun c h1 h2=>by rw[h1,if_pos h2]at hr;exact hr
  have hend2:∀(c:Int),cj aM fs bd x=c→¬c=0→dL (N.map (cj aM fs bd))=c:=fun c h1 h2=>by rw[h1,if_neg h2]at hr;exact hr
  by_cases n2:x.op=2
  ·cases hi:inB x.name bd with
   | true=>
    have hc:cj aM fs bd x=0:=by unfold cj;rw[if_pos n2,hi];rfl
    simp -dsimp -implicitDefEqProofs only[aw,V.copy,V.lend,V.cells,V.boxable,over,JU,eq_self,reduceIte,reduceCtorEq,JS,JT,JR,JV,JH,hlt,decide_true,hx,aT x,n2];refine ae (ew bd x.name _) ?_;simp -dsimp -implicitDefEqProofs only[aw,V.copy,eq_self,reduceIte,reduceCtorEq,JS,JT,JR,hi,wj,decide_true];rw[e3];exact⟨hlt,Nxt.drop (by simp) (an hb rfl) (by simp[aq,V.under];omega) ⟨rfl,rfl,hend _ hc rfl⟩⟩
   | false=>
    have hc:cj aM fs bd x=ef aM fs x.name:=by unfold cj;rw[if_pos n2,hi];rfl
    simp -dsimp -implicitDefEqProofs only[aw,V.copy,V.lend,V.cells,V.boxable,over,JU,eq_self,reduceIte,reduceCtorEq,JS,JT,JR,JV,JH,hlt,decide_true,hx,aT x,n2];refine ae (ew bd x.name _) ?_;simp -dsimp -implicitDefEqProofs only[aw,V.copy,V.lend,JU,eq_self,reduceIte,reduceCtorEq,JS,JT,JR,JV,hi];refine ae (jH i fs x.name (hm n2) hp _ (h.app _)) ?_;by_cases h0:ef aM fs x.name=0
    ·simp -dsimp -implicitDefEqProofs only[aw,V.copy,eq_self,reduceIte,reduceCtorEq,JS,JT,JR,h0,wj,decide_true];rw[e3];exact⟨hlt,Nxt.drop (by simp) (an hb rfl) (by simp[aq,V.under];omega) ⟨rfl,rfl,hend _ hc h0⟩⟩
    ·simp -dsimp -implicitDefEqProofs only[aw,V.copy,eq_self,reduceIte,reduceCtorEq,JS,JT,JR,decide_eq_false h0];rw[hend2 _ hc h0];first|exact ac hb rfl rfl JJ ⟨rfl,rfl⟩|exact ac hb rfl rfl JK ⟨rfl,rfl⟩
  ·by_cases n3:x.op=3∨x.op=24
   ·have hc:cj aM fs bd x=dN fs x.name:=by unfold cj;rw[if_neg n2,if_pos n3]
    rcases n3 with n3|n3
    all_goals
     simp -dsimp -implicitDefEqProofs only[aw,V.copy,V.lend,V.cells,V.boxable,over,JU,eq_self,reduceIte,reduceCtorEq,JS,JT,JR,JV,JH,hlt,decide_true,hx,aT x,n3,JI,decide_false];refine ae (oJ i fs x.name hp _ (h.app _)) ?_;by_cases h0:dN fs x.name=0
     ·simp -dsimp -implicitDefEqProofs only[aw,V.copy,eq_self,reduceIte,reduceCtorEq,JS,JT,JR,h0,wj,decide_true];rw[e3];exact⟨hlt,Nxt.drop (by simp) (an hb rfl) (by simp[aq,V.under];omega) ⟨rfl,rfl,hend _ hc h0⟩⟩
     ·simp -dsimp -implicitDefEqProofs only[aw,V.copy,eq_self,reduceIte,reduceCtorEq,JS,JT,JR,decide_eq_false h0];rw[hend2 _ hc h0];first|exact ac hb rfl rfl JJ ⟨rfl,rfl⟩|exact ac hb rfl rfl JK ⟨rfl,rfl⟩
   ·have hc:cj aM fs bd x=0:=by unfold cj;rw[if_neg n2,if_neg n3]
    have m3:¬x.op=3:=fun h=>n3 (.inl h);have m24:¬x.op=24:=fun h=>n3 (.inr h);simp -dsimp -implicitDefEqProofs only[aw,V.copy,V.cells,V.boxable,over,JU,eq_self,reduceIte,reduceCtorEq,JS,JT,JR,JV,JH,hlt,decide_true,hx,aT x,decide_eq_false n2,decide_eq_false m3,decide_eq_false m24,wj];rw[e3];exact Nxt.drop (by simp) (an hb rfl) (by simp[aq,V.under];omega) ⟨rfl,rfl,hend _ hc rfl⟩
 ·simp -dsimp -implicitDefEqProofs only[aw,V.copy,eq_self,reduceIte,reduceCtorEq,JS,JT,JR,JH,hlt,decide_false];rw[List.drop_eq_nil_of_le (by omega)]at hr;rw[hr];first|exact ac hb rfl rfl JJ ⟨rfl,rfl⟩|exact ac hb rfl rfl JK ⟨rfl,rfl⟩
end Go.Proofs.YthoebpnbhgmoiaaGreatDoor
