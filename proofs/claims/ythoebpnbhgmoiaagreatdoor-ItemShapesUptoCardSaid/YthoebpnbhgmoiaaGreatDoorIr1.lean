import Derived.Test.YthoebpnbhgmoiaaGreatDoorIs3
import Derived.Test.YthoebpnbhgmoiaaGreatDoorIt6
set_option linter.unusedVariables false
set_option linter.unusedSimpArgs false
set_option linter.unusedSectionVars false
open Bool renaming true_and→JH,false_and→JI
open Int renaming reduceEq→JJ,ofNat_lt→JK
open List renaming take_length→JL,take_left→JM,getElem?_eq_getElem→JO,drop_eq_nil_of_le→JP,all_nil→JQ
open Nat renaming reduceEqDiff→JR,reduceLT→JS,reduceBEq→JT,reduceLeDiff→JU,reduceAdd→JV
namespace Go.Proofs.YthoebpnbhgmoiaaGreatDoor
open Go.RowKit
theorem nf(s:ByteArray)(σ:List (List V)):Fun G 146 [.d (al s)] σ (aO (.d (.lit (.bool (bv s)))) σ):=
 kg Tryz.func146 (by kernel_rfl) (by kernel_rfl) trivial fun M bm w v hG hM hr=>by
  cases hr with
  | d h=>cases h with
   | lit _ hs=>
    have:=mw s w (by simp only[cR,maxLen]at hs;omega);rw[←gX]at this;exact this
theorem dz(k:Int)(σ:List (List V)):Fun G 43 [.d (ah k)] σ (aO (az (decide (k=1∨k=2∨k=4))) σ):=by
 refine ao Tryz.func43 k43 rfl fun hb hw=>?_;delta c43 oM oV kI kS kT kF;by_cases k1:k=1
 ·subst k1;simp -dsimp -implicitDefEqProofs only[aw,aj,V.copy,eq_self,reduceIte,reduceCtorEq,JT,JS,JR,JJ,decide_true];exact ac hb rfl rfl JL ⟨rfl,rfl⟩
 by_cases k2:k=2
 ·subst k2;simp -dsimp -implicitDefEqProofs only[aw,aj,V.copy,cond_false,eq_self,reduceIte,reduceCtorEq,JT,JS,JR,JJ,decide_true,decide_false];exact ac hb rfl rfl JL ⟨rfl,rfl⟩
 have e:decide (k=1∨k=2∨k=4)=decide (k=4):=by simp[k1,k2]
 rw[e];simp -dsimp -implicitDefEqProofs only[aw,aj,V.copy,cond_false,eq_self,reduceIte,reduceCtorEq,JT,JS,JR,decide_eq_false k1,decide_eq_false k2];first|exact ac hb rfl rfl JL ⟨rfl,rfl⟩|exact ac hb rfl rfl JM ⟨rfl,rfl⟩
theorem qk{α:Type}(l:List α):decide ((0:Int)<((l.length:Nat):Int)) = !l.isEmpty:=by cases l<;>simp
theorem vC(e:Ex):jj e cI=dk e:=by
 cases e with
 | mk o n s l=>
 have e1:dk (.mk o n s l)=(decide (o=0)&&decide (n=0)&&decide (s=⟨#[]⟩)&&l.isEmpty):=rfl;rw[e1];unfold cI;rw[jj,Bool.eq_iff_iff];cases l with
 | nil=>simp[gh,and_assoc]
 | cons a r=>simp[gh]
set_option maxHeartbeats 4000000 in
theorem tx(x:It)(hbig:eO x≤1000000)(hk:1≤x.kind∧x.kind≤6)(σ:List (List V)):Fun G 138 [vit x] σ (aO (az (bE x)) σ):=by
 have hb0:=bI x;have e1:=qk x.ws;have e2:=qk x.items;have e3:=qk x.els;have e4:=gu x.bef;have e5:=gu x.aft;have hk6:x.kind=1∨x.kind=2∨x.kind=3∨x.kind=4∨x.kind=5∨x.kind=6:=by omega
 refine ao Tryz.func138 I6 (by simp only[aK];rfl) fun hb hw=>?_;delta Ga oM oV kI kS kT kF;have hsm:=fun σ=>oI x.ex cI σ;rw[vC,rq]at hsm;simp only[am]at hsm;rcases hk6 with hk|hk|hk|hk|hk|hk
 ·have hp:bE x=(x.ws.isEmpty&&(decide (x.name=⟨#[]⟩)&&(decide (x.idx=⟨#[]⟩)&&(x.items.isEmpty&&(x.els.isEmpty&&(x.bef.isEmpty&&(x.aft.isEmpty))))))):=by unfold bE;simp[hk];try ac_rfl
  have ha:=fun σ=>dz x.kind σ;rw[hk,decide_eq_true (by omega)]at ha;simp -dsimp -implicitDefEqProofs only[aw,aj,V.copy,V.lend,V.cells,V.boxable,JU,eq_self,reduceIte,reduceCtorEq,JT,JS,JR,JV,aK,hk];refine ae (ha _) ?_;simp -dsimp -implicitDefEqProofs only[aw,V.copy,JU,eq_self,reduceIte,JS,JR,JV,e1,JJ,decide_false];rw[hp];cases h_ws:x.ws.isEmpty with
  | false=>
   simp -dsimp -implicitDefEqProofs only[aw,V.copy,cond_true,cond_false,eq_self,reduceIte,JT,JS,JR,JI];first|exact ac hb rfl rfl JL ⟨rfl,rfl⟩|exact ac hb rfl rfl JM ⟨rfl,rfl⟩
  | true=>
  simp -dsimp -implicitDefEqProofs only[aw,V.copy,JU,cond_true,cond_false,eq_self,reduceIte,JT,JS,JR,JV,JJ,decide_false,JH];cases h_name:decide (x.name=⟨#[]⟩)with
  | false=>
   simp -dsimp -implicitDefEqProofs only[aw,V.copy,eq_self,reduceIte,JT,JS,JR,JI,JH];first|exact ac hb rfl rfl JL ⟨rfl,rfl⟩|exact ac hb rfl rfl JM ⟨rfl,rfl⟩
  | true=>
  simp -dsimp -implicitDefEqProofs only[aw,V.copy,JU,eq_self,reduceIte,JS,JR,JV,JJ,decide_false,JH];cases h_idx:decide (x.idx=⟨#[]⟩)with
  | false=>
   simp -dsimp -implicitDefEqProofs only[aw,V.copy,cond_true,eq_self,reduceIte,JT,JS,JR,JI,JH];first|exact ac hb rfl rfl JL ⟨rfl,rfl⟩|exact ac hb rfl rfl JM ⟨rfl,rfl⟩
  | true=>
  simp -dsimp -implicitDefEqProofs only[aw,V.copy,JU,cond_true,cond_false,eq_self,reduceIte,JS,JR,JV,e2,JJ,decide_false];cases h_items:x.items.isEmpty with
  | false=>
   simp -dsimp -implicitDefEqProofs only[aw,V.copy,eq_self,reduceIte,JT,JS,JR,JI,JH];first|exact ac hb rfl rfl JL ⟨rfl,rfl⟩|exact ac hb rfl rfl JM ⟨rfl,rfl⟩
  | true=>
  simp -dsimp -implicitDefEqProofs only[aw,V.copy,JU,cond_true,cond_false,eq_self,reduceIte,JT,JS,JR,JV,e3,JJ,decide_false,JH];cases h_els:x.els.isEmpty with
  | false=>
   simp -dsimp -implicitDefEqProofs only[aw,V.copy,eq_self,reduceIte,JT,JS,JR,JI,JH];first|exact ac hb rfl rfl JL ⟨rfl,rfl⟩|exact ac hb rfl rfl JM ⟨rfl,rfl⟩
  | true=>
  simp -dsimp -implicitDefEqProofs only[aw,V.copy,JU,eq_self,reduceIte,JS,JR,JV,e4,JJ,decide_false,JH];cases h_bef:x.bef.isEmpty with
  | false=>
   simp -dsimp -implicitDefEqProofs only[aw,V.copy,cond_false,eq_self,reduceIte,JT,JS,JR,JI,JH];first|exact ac hb rfl rfl JL ⟨rfl,rfl⟩|exact ac hb rfl rfl JM ⟨rfl,rfl⟩
  | true=>
  simp -dsimp -implicitDefEqProofs only[aw,V.copy,JU,cond_true,cond_false,eq_self,reduceIte,JT,JS,JR,JV,e5,JH];first|exact ac hb rfl rfl JL ⟨rfl,rfl⟩|exact ac hb rfl rfl JM ⟨rfl,rfl⟩
 ·have hp:bE x=(x.ws.isEmpty&&(decide (x.name=⟨#[]⟩)&&(decide (x.idx=⟨#[]⟩)&&(x.items.isEmpty&&(x.els.isEmpty&&(x.bef.isEmpty&&(x.aft.isEmpty))))))):=by unfold bE;simp[hk];try ac_rfl
  have ha:=fun σ=>dz x.kind σ;rw[hk,decide_eq_true (by omega)]at ha;simp -dsimp -implicitDefEqProofs only[aw,aj,V.copy,V.lend,V.cells,V.boxable,JU,eq_self,reduceIte,reduceCtorEq,JT,JS,JR,JV,aK,hk];refine ae (ha _) ?_;simp -dsimp -implicitDefEqProofs only[aw,V.copy,JU,eq_self,reduceIte,JS,JR,JV,e1,JJ,decide_false];rw[hp];cases h_ws:x.ws.isEmpty with
  | false=>
   simp -dsimp -implicitDefEqProofs only[aw,V.copy,cond_true,cond_false,eq_self,reduceIte,JT,JS,JR,JI];first|exact ac hb rfl rfl JL ⟨rfl,rfl⟩|exact ac hb rfl rfl JM ⟨rfl,rfl⟩
  | true=>
  simp -dsimp -implicitDefEqProofs only[aw,V.copy,JU,cond_true,cond_false,eq_self,reduceIte,JT,JS,JR,JV,JJ,decide_false,JH];cases h_name:decide (x.name=⟨#[]⟩)with
  | false=>
   simp -dsimp -implicitDefEqProofs only[aw,V.copy,eq_self,reduceIte,JT,JS,JR,JI,JH];first|exact ac hb rfl rfl JL ⟨rfl,rfl⟩|exact ac hb rfl rfl JM ⟨rfl,rfl⟩
  | true=>
  simp -dsimp -implicitDefEqProofs only[aw,V.copy,JU,eq_self,reduceIte,JS,JR,JV,JJ,decide_false,JH];cases h_idx:decide (x.idx=⟨#[]⟩)with
  | false=>
   simp -dsimp -implicitDefEqProofs only[aw,V.copy,cond_true,eq_self,reduceIte,JT,JS,JR,JI,JH];first|exact ac hb rfl rfl JL ⟨rfl,rfl⟩|exact ac hb rfl rfl JM ⟨rfl,rfl⟩
  | true=>
  simp -dsimp -implicitDefEqProofs only[aw,V.copy,JU,cond_true,cond_false,eq_self,reduceIte,JS,JR,JV,e2,JJ,decide_false];cases h_items:x.items.isEmpty with
  | false=>
   simp -dsimp -implicitDefEqProofs only[aw,V.copy,eq_self,reduceIte,JT,JS,JR,JI,JH];first|exact ac hb rfl rfl JL ⟨rfl,rfl⟩|exact ac hb rfl rfl JM ⟨rfl,rfl⟩
  | true=>
  simp -dsimp -implicitDefEqProofs only[aw,V.copy,JU,cond_true,cond_false,eq_self,reduceIte,JT,JS,JR,JV,e3,JJ,decide_false,JH];cases h_els:x.els.isEmpty with
  | false=>
   simp -dsimp -implicitDefEqProofs only[aw,V.copy,eq_self,reduceIte,JT,JS,JR,JI,JH];first|exact ac hb rfl rfl JL ⟨rfl,rfl⟩|exact ac hb rfl rfl JM ⟨rfl,rfl⟩
  | true=>
  simp -dsimp -implicitDefEqProofs only[aw,V.copy,JU,eq_self,reduceIte,JS,JR,JV,e4,JJ,decide_false,JH];cases h_bef:x.bef.isEmpty with
  | false=>
   simp -dsimp -implicitDefEqProofs only[aw,V.copy,cond_false,eq_self,reduceIte,JT,JS,JR,JI,JH];first|exact ac hb rfl rfl JL ⟨rfl,rfl⟩|exact ac hb rfl rfl JM ⟨rfl,rfl⟩
  | true=>
  simp -dsimp -implicitDefEqProofs only[aw,V.copy,JU,cond_true,cond_false,eq_self,reduceIte,JT,JS,JR,JV,e5,JH];first|exact ac hb rfl rfl JL ⟨rfl,rfl⟩|exact ac hb rfl rfl JM ⟨rfl,rfl⟩
 ·have hp:bE x=(dk x.ex&&(decide (x.idx=⟨#[]⟩)&&(x.items.isEmpty&&(x.els.isEmpty&&(x.bef.isEmpty&&(x.aft.isEmpty)))))):=by unfold bE;simp[hk];try ac_rfl
  have ha:=fun σ=>dz x.kind σ;rw[hk,decide_eq_false (by omega)]at ha;simp -dsimp -implicitDefEqProofs only[aw,aj,V.copy,V.lend,V.cells,V.boxable,JU,eq_self,reduceIte,reduceCtorEq,JT,JS,JR,JV,aK,hk];refine ae (ha _) ?_;simp -dsimp -implicitDefEqProofs only[aw,V.copy,V.lend,V.lend1,bc,JU,eq_self,reduceIte,JS,JR,JV];rw[hp];refine ae (hsm _) ?_;cases h_bl:dk x.ex with
  | false=>
   simp -dsimp -implicitDefEqProofs only[aw,V.copy,cond_true,eq_self,reduceIte,JT,JS,JR,JI];first|exact ac hb rfl rfl JL ⟨rfl,rfl⟩|exact ac hb rfl rfl JM ⟨rfl,rfl⟩
  | true=>
  simp -dsimp -implicitDefEqProofs only[aw,V.copy,JU,cond_true,cond_false,eq_self,reduceIte,JT,JS,JR,JV,JJ,decide_true,decide_false,JH];cases h_idx:decide (x.idx=⟨#[]⟩)with
  | false=>
   simp -dsimp -implicitDefEqProofs only[aw,V.copy,cond_true,eq_self,reduceIte,JT,JS,JR,JI,JH];first|exact ac hb rfl rfl JL ⟨rfl,rfl⟩|exact ac hb rfl rfl JM ⟨rfl,rfl⟩
  | true=>
  simp -dsimp -implicitDefEqProofs only[aw,V.copy,JU,cond_true,cond_false,eq_self,reduceIte,JS,JR,JV,e2,JJ,decide_false];cases h_items:x.items.isEmpty with
  | false=>
   simp -dsimp -implicitDefEqProofs only[aw,V.copy,eq_self,reduceIte,JT,JS,JR,JI,JH];first|exact ac hb rfl rfl JL ⟨rfl,rfl⟩|exact ac hb rfl rfl JM ⟨rfl,rfl⟩
  | true=>
  simp -dsimp -implicitDefEqProofs only[aw,V.copy,JU,cond_true,cond_false,eq_self,reduceIte,JT,JS,JR,JV,e3,JJ,decide_false,JH];cases h_els:x.els.isEmpty with
  | false=>
   simp -dsimp -implicitDefEqProofs only[aw,V.copy,eq_self,reduceIte,JT,JS,JR,JI,JH];first|exact ac hb rfl rfl JL ⟨rfl,rfl⟩|exact ac hb rfl rfl JM ⟨rfl,rfl⟩
  | true=>
  simp -dsimp -implicitDefEqProofs only[aw,V.copy,JU,eq_self,reduceIte,JS,JR,JV,e4,JJ,decide_false,JH];cases h_bef:x.bef.isEmpty with
  | false=>
   simp -dsimp -implicitDefEqProofs only[aw,V.copy,cond_false,eq_self,reduceIte,JT,JS,JR,JI,JH];first|exact ac hb rfl rfl JL ⟨rfl,rfl⟩|exact ac hb rfl rfl JM ⟨rfl,rfl⟩
  | true=>
  simp -dsimp -implicitDefEqProofs only[aw,V.copy,JU,cond_true,cond_false,eq_self,reduceIte,JT,JS,JR,JV,e5,JH];first|exact ac hb rfl rfl JL ⟨rfl,rfl⟩|exact ac hb rfl rfl JM ⟨rfl,rfl⟩
 ·have hp:bE x=(x.ws.isEmpty&&(decide (x.name=⟨#[]⟩)&&(decide (x.idx=⟨#[]⟩)&&(x.bef.isEmpty&&(x.aft.isEmpty))))):=by unfold bE;simp[hk];try ac_rfl
  have ha:=fun σ=>dz x.kind σ;rw[hk,decide_eq_true (by omega)]at ha;simp -dsimp -implicitDefEqProofs only[aw,aj,V.copy,V.lend,V.cells,V.boxable,JU,eq_self,reduceIte,reduceCtorEq,JT,JS,JR,JV,aK,hk];refine ae (ha _) ?_;simp -dsimp -implicitDefEqProofs only[aw,V.copy,JU,eq_self,reduceIte,JS,JR,JV,e1,JJ,decide_false];rw[hp];cases h_ws:x.ws.isEmpty with
  | false=>
   simp -dsimp -implicitDefEqProofs only[aw,V.copy,cond_true,cond_false,eq_self,reduceIte,JT,JS,JR,JI];first|exact ac hb rfl rfl JL ⟨rfl,rfl⟩|exact ac hb rfl rfl JM ⟨rfl,rfl⟩
  | true=>
  simp -dsimp -implicitDefEqProofs only[aw,V.copy,JU,cond_true,cond_false,eq_self,reduceIte,JT,JS,JR,JV,JJ,decide_false,JH];cases h_name:decide (x.name=⟨#[]⟩)with
  | false=>
   simp -dsimp -implicitDefEqProofs only[aw,V.copy,eq_self,reduceIte,JT,JS,JR,JI,JH];first|exact ac hb rfl rfl JL ⟨rfl,rfl⟩|exact ac hb rfl rfl JM ⟨rfl,rfl⟩
  | true=>
  simp -dsimp -implicitDefEqProofs only[aw,V.copy,JU,eq_self,reduceIte,JS,JR,JV,JJ,decide_false,JH];cases h_idx:decide (x.idx=⟨#[]⟩)with
  | false=>
   simp -dsimp -implicitDefEqProofs only[aw,V.copy,cond_true,eq_self,reduceIte,JT,JS,JR,JI,JH];first|exact ac hb rfl rfl JL ⟨rfl,rfl⟩|exact ac hb rfl rfl JM ⟨rfl,rfl⟩
  | true=>
  simp -dsimp -implicitDefEqProofs only[aw,V.copy,JU,cond_true,cond_false,eq_self,reduceIte,JT,JS,JR,JV,e4,JJ,decide_true,decide_false,JH];cases h_bef:x.bef.isEmpty with
  | false=>
   simp -dsimp -implicitDefEqProofs only[aw,V.copy,cond_false,eq_self,reduceIte,JT,JS,JR,JI,JH];first|exact ac hb rfl rfl JL ⟨rfl,rfl⟩|exact ac hb rfl rfl JM ⟨rfl,rfl⟩
  | true=>
  simp -dsimp -implicitDefEqProofs only[aw,V.copy,JU,cond_true,cond_false,eq_self,reduceIte,JT,JS,JR,JV,e5,JH];first|exact ac hb rfl rfl JL ⟨rfl,rfl⟩|exact ac hb rfl rfl JM ⟨rfl,rfl⟩
 ·have hp:bE x=(dk x.ex&&(x.ws.isEmpty&&(x.els.isEmpty&&(x.bef.isEmpty&&(x.aft.isEmpty))))):=by unfold bE;simp[hk];try ac_rfl
  have ha:=fun σ=>dz x.kind σ;rw[hk,decide_eq_false (by omega)]at ha;simp -dsimp -implicitDefEqProofs only[aw,aj,V.copy,V.lend,V.cells,V.boxable,JU,eq_self,reduceIte,reduceCtorEq,JT,JS,JR,JV,aK,hk];refine ae (ha _) ?_;simp -dsimp -implicitDefEqProofs only[aw,V.copy,V.lend,V.lend1,bc,JU,eq_self,reduceIte,JS,JR,JV];rw[hp];refine ae (hsm _) ?_;cases h_bl:dk x.ex with
  | false=>
   simp -dsimp -implicitDefEqProofs only[aw,V.copy,cond_true,eq_self,reduceIte,JT,JS,JR,JI];first|exact ac hb rfl rfl JL ⟨rfl,rfl⟩|exact ac hb rfl rfl JM ⟨rfl,rfl⟩
  | true=>
  simp -dsimp -implicitDefEqProofs only[aw,V.copy,JU,cond_true,eq_self,reduceIte,JS,JR,JV,e1,JJ,decide_false];cases h_ws:x.ws.isEmpty with
  | false=>
   simp -dsimp -implicitDefEqProofs only[aw,V.copy,cond_true,cond_false,eq_self,reduceIte,JT,JS,JR,JI,JH];first|exact ac hb rfl rfl JL ⟨rfl,rfl⟩|exact ac hb rfl rfl JM ⟨rfl,rfl⟩
  | true=>
  simp -dsimp -implicitDefEqProofs only[aw,V.copy,JU,cond_true,cond_false,eq_self,reduceIte,JT,JS,JR,JV,e3,JJ,decide_true,decide_false,JH];cases h_els:x.els.isEmpty with
  | false=>
   simp -dsimp -implicitDefEqProofs only[aw,V.copy,eq_self,reduceIte,JT,JS,JR,JI,JH];first|exact ac hb rfl rfl JL ⟨rfl,rfl⟩|exact ac hb rfl rfl JM ⟨rfl,rfl⟩
  | true=>
  simp -dsimp -implicitDefEqProofs only[aw,V.copy,JU,eq_self,reduceIte,JS,JR,JV,e4,JJ,decide_false,JH];cases h_bef:x.bef.isEmpty with
  | false=>
   simp -dsimp -implicitDefEqProofs only[aw,V.copy,cond_false,eq_self,reduceIte,JT,JS,JR,JI,JH];first|exact ac hb rfl rfl JL ⟨rfl,rfl⟩|exact ac hb rfl rfl JM ⟨rfl,rfl⟩
  | true=>
  simp -dsimp -implicitDefEqProofs only[aw,V.copy,JU,cond_true,cond_false,eq_self,reduceIte,JT,JS,JR,JV,e5,JH];first|exact ac hb rfl rfl JL ⟨rfl,rfl⟩|exact ac hb rfl rfl JM ⟨rfl,rfl⟩
 ·have hp:bE x=(dk x.ex&&(x.ws.isEmpty&&(decide (x.name=⟨#[]⟩)&&(decide (x.idx=⟨#[]⟩)&&(x.items.isEmpty&&(x.els.isEmpty)))))):=by unfold bE;simp[hk];try ac_rfl
  have ha:=fun σ=>dz x.kind σ;rw[hk,decide_eq_false (by omega)]at ha;simp -dsimp -implicitDefEqProofs only[aw,aj,V.copy,V.lend,V.cells,V.boxable,JU,eq_self,reduceIte,reduceCtorEq,JT,JS,JR,JV,aK,hk];refine ae (ha _) ?_;simp -dsimp -implicitDefEqProofs only[aw,V.copy,V.lend,V.lend1,bc,JU,eq_self,reduceIte,JS,JR,JV];rw[hp];refine ae (hsm _) ?_;cases h_bl:dk x.ex with
  | false=>
   simp -dsimp -implicitDefEqProofs only[aw,V.copy,cond_true,eq_self,reduceIte,JT,JS,JR,JI];first|exact ac hb rfl rfl JL ⟨rfl,rfl⟩|exact ac hb rfl rfl JM ⟨rfl,rfl⟩
  | true=>
  simp -dsimp -implicitDefEqProofs only[aw,V.copy,JU,cond_true,eq_self,reduceIte,JS,JR,JV,e1,JJ,decide_false];cases h_ws:x.ws.isEmpty with
  | false=>
   simp -dsimp -implicitDefEqProofs only[aw,V.copy,cond_true,cond_false,eq_self,reduceIte,JT,JS,JR,JI,JH];first|exact ac hb rfl rfl JL ⟨rfl,rfl⟩|exact ac hb rfl rfl JM ⟨rfl,rfl⟩
  | true=>
  simp -dsimp -implicitDefEqProofs only[aw,V.copy,JU,cond_true,cond_false,eq_self,reduceIte,JT,JS,JR,JV,JJ,decide_false,JH];cases h_name:decide (x.name=⟨#[]⟩)with
  | false=>
   simp -dsimp -implicitDefEqProofs only[aw,V.copy,eq_self,reduceIte,JT,JS,JR,JI,JH];first|exact ac hb rfl rfl JL ⟨rfl,rfl⟩|exact ac hb rfl rfl JM ⟨rfl,rfl⟩
  | true=>
  simp -dsimp -implicitDefEqProofs only[aw,V.copy,JU,eq_self,reduceIte,JS,JR,JV,JJ,decide_false,JH];cases h_idx:decide (x.idx=⟨#[]⟩)with
  | false=>
   simp -dsimp -implicitDefEqProofs only[aw,V.copy,cond_true,eq_self,reduceIte,JT,JS,JR,JI,JH];first|exact ac hb rfl rfl JL ⟨rfl,rfl⟩|exact ac hb rfl rfl JM ⟨rfl,rfl⟩
  | true=>
  simp -dsimp -implicitDefEqProofs only[aw,V.copy,JU,cond_true,cond_false,eq_self,reduceIte,JS,JR,JV,e2,JJ,decide_false];cases h_items:x.items.isEmpty with
  | false=>
   simp -dsimp -implicitDefEqProofs only[aw,V.copy,eq_self,reduceIte,JT,JS,JR,JI,JH];first|exact ac hb rfl rfl JL ⟨rfl,rfl⟩|exact ac hb rfl rfl JM ⟨rfl,rfl⟩
  | true=>
  simp -dsimp -implicitDefEqProofs only[aw,V.copy,JU,cond_true,cond_false,eq_self,reduceIte,JT,JS,JR,JV,e3,JJ,decide_false,JH];cases h_els:x.els.isEmpty with
  | false=>
   simp -dsimp -implicitDefEqProofs only[aw,V.copy,eq_self,reduceIte,JT,JS,JR,JH];first|exact ac hb rfl rfl JL ⟨rfl,rfl⟩|exact ac hb rfl rfl JM ⟨rfl,rfl⟩
  | true=>
  simp -dsimp -implicitDefEqProofs only[aw,V.copy,JU,eq_self,reduceIte,JT,JS,JR,JV,decide_true];first|exact ac hb rfl rfl JL ⟨rfl,rfl⟩|exact ac hb rfl rfl JM ⟨rfl,rfl⟩
set_option maxHeartbeats 4000000 in
theorem zj(x:It)(hbig:eO x≤1000000)(σ:List (List V)):Fun G 139 [vit x] σ (aO (.d (ah (fY x))) σ):=by
 have hb0:=bI x;refine ao Tryz.func139 JA (by simp only[aK];rfl) fun hb hw=>?_;delta ES oM oV kI kS kT kF;by_cases h1:x.ws.length>16
 ·have h1':((16:Int)<((x.ws.length:Nat):Int)):=by omega
  have hr:fY x=2:=by unfold fY;rw[if_pos h1]
  rw[hr];simp -dsimp -implicitDefEqProofs only[aw,aj,V.copy,V.cells,V.boxable,JU,eq_self,reduceIte,reduceCtorEq,JT,JS,JR,JV,aK,decide_eq_true h1'];first|exact ac hb rfl rfl JL ⟨rfl,rfl⟩|exact ac hb rfl rfl JM ⟨rfl,rfl⟩
 have h1':¬((16:Int)<((x.ws.length:Nat):Int)):=by omega
 by_cases h2:x.ws=[]
 ·have h2':((x.ws.length:Nat):Int)=0:=by rw[h2];rfl
  have hr:fY x=1:=by unfold fY;rw[if_neg h1,if_pos h2]
  rw[hr];simp -dsimp -implicitDefEqProofs only[aw,aj,V.copy,V.cells,V.boxable,JU,eq_self,reduceIte,reduceCtorEq,JT,JS,JR,JV,aK,decide_eq_false h1',decide_eq_true h2'];first|exact ac hb rfl rfl JL ⟨rfl,rfl⟩|exact ac hb rfl rfl JM ⟨rfl,rfl⟩
 have h2':¬(((x.ws.length:Nat):Int)=0):=by have:=List.length_pos_iff.2 h2;omega
 have hr:fY x=if x.ws.all wtB=false then 1 else if bv x.name=true then 0 else 7:=by unfold fY;rw[if_neg h1,if_neg h2]
 rw[hr];simp -dsimp -implicitDefEqProofs only[aw,aj,V.copy,V.cells,V.boxable,JU,eq_self,reduceIte,reduceCtorEq,JT,JS,JR,JV,aK,decide_eq_false h1',decide_eq_false h2'];refine bC (R:=fun(j:Nat) ρ σ'=>ρ=[(1,.ptr σ.length 0),(3,aL .i64 j)]∧σ'=σ++[[.d (ah x.kind),.d (ah x.ex.op),.d (ah x.ex.num),.d (al x.ex.name),.d (.sl (x.ex.args.map dex)),.d (al x.name),.d (al x.idx),.d (.sl (x.ws.map dwt)),.d (.sl (x.items.map dit)),.d (.sl (x.els.map dit)),.d (.sl (x.bef.map fun s=>[al s])),.d (.sl (x.aft.map fun s=>[al s]))]]∧x.ws.all wtB=(x.ws.drop j).all wtB) x.ws.length ⟨rfl,rfl,rfl⟩ ?_ _;rintro j ρ' σ' hj ⟨rfl,rfl,hrr⟩;by_cases hlt:j<x.ws.length
 ·rw[List.drop_eq_getElem_cons hlt,List.all_cons]at hrr;have hxx:x.ws[j]? = some x.ws[j]:=JO hlt;generalize x.ws[j]=w at hrr hxx;have hd:dwt w=[ah w.lo,ah w.hi,ah w.w,dbl w.each]:=rfl;have wj:=aH hlt (show x.ws.length≤9223372036854775807 by omega);have good:wtB w=true→x.ws.all wtB=(x.ws.drop (j+1)).all wtB:=fun h=>by rw[hrr,h,JH]
  have bad:wtB w=false→(if x.ws.all wtB=false then(1:Int)else if bv x.name=true then 0 else 7)=1:=fun h=>by rw[hrr,h,JI,if_pos rfl]
  by_cases q1:w.lo<0
  ·rw[bad (by unfold wtB;simp;intro;omega)];simp -dsimp -implicitDefEqProofs only[aw,V.copy,V.cells,V.boxable,over,JU,eq_self,reduceIte,JT,JS,JR,JV,JK,hlt,decide_true,hxx,hd,decide_eq_true q1];first|exact ac hb rfl rfl JL ⟨rfl,rfl⟩|exact ac hb rfl rfl JM ⟨rfl,rfl⟩
  by_cases q2:w.hi<w.lo
  ·rw[bad (by unfold wtB;simp;intro _ _;omega)];simp -dsimp -implicitDefEqProofs only[aw,V.copy,V.cells,V.boxable,over,JU,cond_false,eq_self,reduceIte,JT,JS,JR,JV,JK,hlt,decide_true,hxx,hd,decide_eq_false q1,decide_eq_true q2];first|exact ac hb rfl rfl JL ⟨rfl,rfl⟩|exact ac hb rfl rfl JM ⟨rfl,rfl⟩
  by_cases q3:65535<w.hi
  ·rw[bad (by unfold wtB;simp;intro _ _ _;omega)];simp -dsimp -implicitDefEqProofs only[aw,V.copy,V.cells,V.boxable,over,JU,cond_false,eq_self,reduceIte,JT,JS,JR,JV,JK,hlt,decide_true,hxx,hd,decide_eq_false q1,decide_eq_false q2,decide_eq_true q3];first|exact ac hb rfl rfl JL ⟨rfl,rfl⟩|exact ac hb rfl rfl JM ⟨rfl,rfl⟩
  by_cases q4:w.w<0
  ·rw[bad (by unfold wtB;simp;intro _ _ _ _;omega)];simp -dsimp -implicitDefEqProofs only[aw,V.copy,V.cells,V.boxable,over,JU,cond_false,eq_self,reduceIte,JT,JS,JR,JV,JK,hlt,decide_true,hxx,hd,decide_eq_false q1,decide_eq_false q2,decide_eq_false q3,decide_eq_true q4];first|exact ac hb rfl rfl JL ⟨rfl,rfl⟩|exact ac hb rfl rfl JM ⟨rfl,rfl⟩
  by_cases q5:1000<w.w
  ·rw[bad (by unfold wtB;simp;intro _ _ _ _;omega)];simp -dsimp -implicitDefEqProofs only[aw,V.copy,V.cells,V.boxable,over,JU,cond_false,eq_self,reduceIte,JT,JS,JR,JV,JK,hlt,decide_true,hxx,hd,decide_eq_false q1,decide_eq_false q2,decide_eq_false q3,decide_eq_false q4,decide_eq_true q5];first|exact ac hb rfl rfl JL ⟨rfl,rfl⟩|exact ac hb rfl rfl JM ⟨rfl,rfl⟩
  have hg:=good (by unfold wtB;simp;omega);simp -dsimp -implicitDefEqProofs only[aw,V.copy,V.cells,V.boxable,over,JU,cond_false,eq_self,reduceIte,JT,JS,JR,JV,JK,hlt,decide_true,hxx,hd,decide_eq_false q1,decide_eq_false q2,decide_eq_false q3,decide_eq_false q4,decide_eq_false q5,wj];have e3:∀a b:List V,σ++[a,b]=(σ++[a])++[b]:=fun a b=>by simp
  rw[e3];exact Nxt.drop (by simp) (an hb rfl) (by simp[aq,V.under]) ⟨rfl,rfl,hg⟩
 ·rw[JP (by omega)]at hrr;rw[hrr,JQ,if_neg (by simp)];simp -dsimp -implicitDefEqProofs only[aw,V.copy,V.lend,JU,eq_self,reduceIte,JT,JS,JR,JV,JK,hlt,decide_false];refine ae (nf x.name _) ?_;cases hi:bv x.name with
  | true=>
   simp -dsimp -implicitDefEqProofs only[aw,V.copy,eq_self,reduceIte,JT,JS,JR];first|exact ac hb rfl rfl JL ⟨rfl,rfl⟩|exact ac hb rfl rfl JM ⟨rfl,rfl⟩
  | false=>
   simp -dsimp -implicitDefEqProofs only[aw,V.copy,eq_self,reduceIte,JT,JS,JR];first|exact ac hb rfl rfl JL ⟨rfl,rfl⟩|exact ac hb rfl rfl JM ⟨rfl,rfl⟩
theorem rL(l:List ByteArray)(hl:l.length≤1000000)(σ:List (List V)):Fun G 140 [.d (aQ l)] σ (aO (az (l.all bv)) σ):=by
 refine ao Tryz.func140 Jk rfl fun hb hw=>?_;delta Gc oM oV kI kS kT kF;simp -dsimp -implicitDefEqProofs only[aw,aj,V.copy,eq_self,reduceIte,reduceCtorEq,JT,JS,aQ];refine bC (R:=fun(j:Nat) ρ σ'=>ρ=[(0,.d (.sl (l.map fun s=>[al s]))),(3,aL .i64 j)]∧σ'=σ∧l.all bv=(l.drop j).all bv) l.length ⟨rfl,rfl,rfl⟩ ?_ _;rintro j ρ' σ' hj ⟨rfl,rfl,hr⟩;by_cases hlt:j<l.length
 ·rw[oT l hlt]at hr;have wj:=aH hlt (show l.length≤9223372036854775807 by omega);simp -dsimp -implicitDefEqProofs only[aw,V.copy,V.lend,JU,eq_self,reduceIte,reduceCtorEq,JT,JS,JR,JK,hlt,decide_true,JO hlt];refine ae (nf l[j] _) ?_;cases hi:bv l[j]with
  | true=>
   simp -dsimp -implicitDefEqProofs only[aw,V.copy,eq_self,reduceIte,reduceCtorEq,JT,JS,JR,wj];exact⟨hlt,Nxt.same (Nat.le_refl _) hb (by simp[aq,V.under]) ⟨rfl,rfl,by rw[hr,hi,JH]⟩⟩
  | false=>
   rw[hr,hi,JI];simp -dsimp -implicitDefEqProofs only[aw,V.copy,eq_self,reduceIte,reduceCtorEq,JT,JS,JR];first|exact ac hb rfl rfl JL ⟨rfl,rfl⟩|exact ac hb rfl rfl JM ⟨rfl,rfl⟩
 ·rw[JP (by omega)]at hr;rw[hr,JQ];simp -dsimp -implicitDefEqProofs only[aw,V.copy,eq_self,reduceIte,reduceCtorEq,JT,JS,JR,JK,hlt,decide_false];first|exact ac hb rfl rfl JL ⟨rfl,rfl⟩|exact ac hb rfl rfl JM ⟨rfl,rfl⟩
end Go.Proofs.YthoebpnbhgmoiaaGreatDoor
