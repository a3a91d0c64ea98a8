import Derived.Test.YtcbahpllcfbkmaaGreatDoorIs3
import Derived.Test.YtcbahpllcfbkmaaGreatDoorSame9
set_option linter.unusedVariables false
set_option linter.unusedSimpArgs false
set_option linter.unusedSectionVars false
namespace Go.Proofs.YtcbahpllcfbkmaaGreatDoor
open Go.RowKit
theorem risvar_fun(s:ByteArray)(σ:List (List V)):Fun G 128 [.d (dstr s)] σ (RetV (.d (.lit (.bool (isVarB s)))) σ):=
 fun_of1c Tryz.func128 (by kernel_rfl) (by kernel_rfl) trivial fun M bm w v hG hM hr=>by
  cases hr with
  | d h=>cases h with
   | lit _ hs=>
    have:=risvar_any s w (by simp only[Fits,maxLen]at hs;omega);rw[←elemB_splitB]at this;exact this
theorem r11asks_fun(k:Int)(σ:List (List V)):Fun G 127 [.d (dint k)] σ (RetV (vbool (decide (k=1∨k=2∨k=4))) σ):=by
 refine fun_code Tryz.func127 k127 rfl fun hb hw=>?_;unfold c127;by_cases k1:k=1
 ·subst k1;simp -dsimp -implicitDefEqProofs only[aw,slots0,V.copy,eq_self,reduceIte,reduceCtorEq,Nat.reduceBEq,Nat.reduceLT,Nat.reduceEqDiff,Int.reduceEq,decide_true];exact fin_ret hb rfl rfl List.take_length ⟨rfl,rfl⟩
 by_cases k2:k=2
 ·subst k2;simp -dsimp -implicitDefEqProofs only[aw,slots0,V.copy,cond_false,eq_self,reduceIte,reduceCtorEq,Nat.reduceBEq,Nat.reduceLT,Nat.reduceEqDiff,Int.reduceEq,decide_true,decide_false];exact fin_ret hb rfl rfl List.take_length ⟨rfl,rfl⟩
 have e:decide (k=1∨k=2∨k=4)=decide (k=4):=by simp[k1,k2]
 rw[e];simp -dsimp -implicitDefEqProofs only[aw,slots0,V.copy,cond_false,eq_self,reduceIte,reduceCtorEq,Nat.reduceBEq,Nat.reduceLT,Nat.reduceEqDiff,decide_eq_false k1,decide_eq_false k2];first|exact fin_ret hb rfl rfl List.take_length ⟨rfl,rfl⟩|exact fin_ret hb rfl rfl List.take_left ⟨rfl,rfl⟩|(trace_state;fail "fin")
theorem len_pos{α:Type}(l:List α):decide ((0:Int)<((l.length:Nat):Int)) = !l.isEmpty:=by cases l<;>simp
theorem same_zero(e:Ex):sameE e zeroE=blankB e:=by
 cases e with
 | mk o n s l=>
 have e1:blankB (.mk o n s l)=(decide (o=0)&&decide (n=0)&&decide (s=⟨#[]⟩)&&l.isEmpty):=rfl;rw[e1];unfold zeroE;rw[sameE,Bool.eq_iff_iff];cases l with
 | nil=>simp[sameL,and_assoc]
 | cons a r=>simp[sameL]
set_option maxHeartbeats 4000000 in
theorem unused_fun(x:It)(hbig:ibig x≤1200000)(hk:1≤x.kind∧x.kind≤6)(σ:List (List V)):Fun G 96 [vit x] σ (RetV (vbool (plainB x)) σ):=by
 have hb0:=ibig_eq x;have e1:=len_pos x.ws;have e2:=len_pos x.items;have e3:=len_pos x.els;have e4:=len_empty x.bef;have e5:=len_empty x.aft;have hk6:x.kind=1∨x.kind=2∨x.kind=3∨x.kind=4∨x.kind=5∨x.kind=6:=by omega
 refine fun_code Tryz.func96 k96 (by simp only[vit_eq];rfl) fun hb hw=>?_;unfold c96;have hsm:=fun σ=>rsame_fun x.ex zeroE σ;rw[same_zero,vzero]at hsm;simp only[vex_eq]at hsm;rcases hk6 with hk|hk|hk|hk|hk|hk
 ·have hp:plainB x=(x.ws.isEmpty&&(decide (x.name=⟨#[]⟩)&&(decide (x.idx=⟨#[]⟩)&&(x.items.isEmpty&&(x.els.isEmpty&&(x.bef.isEmpty&&(x.aft.isEmpty))))))):=by unfold plainB;simp[hk];try ac_rfl
  have ha:=fun σ=>r11asks_fun x.kind σ;rw[hk,decide_eq_true (by omega)]at ha;simp -dsimp -implicitDefEqProofs only[aw,slots0,V.copy,V.lend,V.cells,V.boxable,Nat.reduceLeDiff,eq_self,reduceIte,reduceCtorEq,Nat.reduceBEq,Nat.reduceLT,Nat.reduceEqDiff,Nat.reduceAdd,vit_eq,hk];refine fun_ret (ha _) ?_;simp -dsimp -implicitDefEqProofs only[aw,V.copy,Nat.reduceLeDiff,eq_self,reduceIte,Nat.reduceLT,Nat.reduceEqDiff,Nat.reduceAdd,e1,Int.reduceEq,decide_false];rw[hp];cases h_ws:x.ws.isEmpty with
  | false=>
   simp -dsimp -implicitDefEqProofs only[aw,V.copy,cond_true,cond_false,eq_self,reduceIte,Nat.reduceBEq,Nat.reduceLT,Nat.reduceEqDiff,Bool.false_and];first|exact fin_ret hb rfl rfl List.take_length ⟨rfl,rfl⟩|exact fin_ret hb rfl rfl List.take_left ⟨rfl,rfl⟩|(trace_state;fail "fin")
  | true=>
  simp -dsimp -implicitDefEqProofs only[aw,V.copy,Nat.reduceLeDiff,cond_true,cond_false,eq_self,reduceIte,Nat.reduceBEq,Nat.reduceLT,Nat.reduceEqDiff,Nat.reduceAdd,Int.reduceEq,decide_false,Bool.true_and];cases h_name:decide (x.name=⟨#[]⟩)with
  | false=>
   simp -dsimp -implicitDefEqProofs only[aw,V.copy,eq_self,reduceIte,Nat.reduceBEq,Nat.reduceLT,Nat.reduceEqDiff,Bool.false_and,Bool.true_and];first|exact fin_ret hb rfl rfl List.take_length ⟨rfl,rfl⟩|exact fin_ret hb rfl rfl List.take_left ⟨rfl,rfl⟩|(trace_state;fail "fin")
  | true=>
  simp -dsimp -implicitDefEqProofs only[aw,V.copy,Nat.reduceLeDiff,eq_self,reduceIte,Nat.reduceLT,Nat.reduceEqDiff,Nat.reduceAdd,Int.reduceEq,decide_false,Bool.true_and];cases h_idx:decide (x.idx=⟨#[]⟩)with
  | false=>
   simp -dsimp -implicitDefEqProofs only[aw,V.copy,cond_true,eq_self,reduceIte,Nat.reduceBEq,Nat.reduceLT,Nat.reduceEqDiff,Bool.false_and,Bool.true_and];first|exact fin_ret hb rfl rfl List.take_length ⟨rfl,rfl⟩|exact fin_ret hb rfl rfl List.take_left ⟨rfl,rfl⟩|(trace_state;fail "fin")
  | true=>
  simp -dsimp -implicitDefEqProofs only[aw,V.copy,Nat.reduceLeDiff,cond_true,cond_false,eq_self,reduceIte,Nat.reduceLT,Nat.reduceEqDiff,Nat.reduceAdd,e2,Int.reduceEq,decide_false];cases h_items:x.items.isEmpty with
  | false=>
   simp -dsimp -implicitDefEqProofs only[aw,V.copy,eq_self,reduceIte,Nat.reduceBEq,Nat.reduceLT,Nat.reduceEqDiff,Bool.false_and,Bool.true_and];first|exact fin_ret hb rfl rfl List.take_length ⟨rfl,rfl⟩|exact fin_ret hb rfl rfl List.take_left ⟨rfl,rfl⟩|(trace_state;fail "fin")
  | true=>
  simp -dsimp -implicitDefEqProofs only[aw,V.copy,Nat.reduceLeDiff,cond_true,cond_false,eq_self,reduceIte,Nat.reduceBEq,Nat.reduceLT,Nat.reduceEqDiff,Nat.reduceAdd,e3,Int.reduceEq,decide_false,Bool.true_and];cases h_els:x.els.isEmpty with
  | false=>
   simp -dsimp -implicitDefEqProofs only[aw,V.copy,eq_self,reduceIte,Nat.reduceBEq,Nat.reduceLT,Nat.reduceEqDiff,Bool.false_and,Bool.true_and];first|exact fin_ret hb rfl rfl List.take_length ⟨rfl,rfl⟩|exact fin_ret hb rfl rfl List.take_left ⟨rfl,rfl⟩|(trace_state;fail "fin")
  | true=>
  simp -dsimp -implicitDefEqProofs only[aw,V.copy,Nat.reduceLeDiff,eq_self,reduceIte,Nat.reduceLT,Nat.reduceEqDiff,Nat.reduceAdd,e4,Int.reduceEq,decide_false,Bool.true_and];cases h_bef:x.bef.isEmpty with
  | false=>
   simp -dsimp -implicitDefEqProofs only[aw,V.copy,cond_false,eq_self,reduceIte,Nat.reduceBEq,Nat.reduceLT,Nat.reduceEqDiff,Bool.false_and,Bool.true_and];first|exact fin_ret hb rfl rfl List.take_length ⟨rfl,rfl⟩|exact fin_ret hb rfl rfl List.take_left ⟨rfl,rfl⟩|(trace_state;fail "fin")
  | true=>
  simp -dsimp -implicitDefEqProofs only[aw,V.copy,Nat.reduceLeDiff,cond_true,cond_false,eq_self,reduceIte,Nat.reduceBEq,Nat.reduceLT,Nat.reduceEqDiff,Nat.reduceAdd,e5,Bool.true_and];first|exact fin_ret hb rfl rfl List.take_length ⟨rfl,rfl⟩|exact fin_ret hb rfl rfl List.take_left ⟨rfl,rfl⟩|(trace_state;fail "fin")
 ·have hp:plainB x=(x.ws.isEmpty&&(decide (x.name=⟨#[]⟩)&&(decide (x.idx=⟨#[]⟩)&&(x.items.isEmpty&&(x.els.isEmpty&&(x.bef.isEmpty&&(x.aft.isEmpty))))))):=by unfold plainB;simp[hk];try ac_rfl
  have ha:=fun σ=>r11asks_fun x.kind σ;rw[hk,decide_eq_true (by omega)]at ha;simp -dsimp -implicitDefEqProofs only[aw,slots0,V.copy,V.lend,V.cells,V.boxable,Nat.reduceLeDiff,eq_self,reduceIte,reduceCtorEq,Nat.reduceBEq,Nat.reduceLT,Nat.reduceEqDiff,Nat.reduceAdd,vit_eq,hk];refine fun_ret (ha _) ?_;simp -dsimp -implicitDefEqProofs only[aw,V.copy,Nat.reduceLeDiff,eq_self,reduceIte,Nat.reduceLT,Nat.reduceEqDiff,Nat.reduceAdd,e1,Int.reduceEq,decide_false];rw[hp];cases h_ws:x.ws.isEmpty with
  | false=>
   simp -dsimp -implicitDefEqProofs only[aw,V.copy,cond_true,cond_false,eq_self,reduceIte,Nat.reduceBEq,Nat.reduceLT,Nat.reduceEqDiff,Bool.false_and];first|exact fin_ret hb rfl rfl List.take_length ⟨rfl,rfl⟩|exact fin_ret hb rfl rfl List.take_left ⟨rfl,rfl⟩|(trace_state;fail "fin")
  | true=>
  simp -dsimp -implicitDefEqProofs only[aw,V.copy,Nat.reduceLeDiff,cond_true,cond_false,eq_self,reduceIte,Nat.reduceBEq,Nat.reduceLT,Nat.reduceEqDiff,Nat.reduceAdd,Int.reduceEq,decide_false,Bool.true_and];cases h_name:decide (x.name=⟨#[]⟩)with
  | false=>
   simp -dsimp -implicitDefEqProofs only[aw,V.copy,eq_self,reduceIte,Nat.reduceBEq,Nat.reduceLT,Nat.reduceEqDiff,Bool.false_and,Bool.true_and];first|exact fin_ret hb rfl rfl List.take_length ⟨rfl,rfl⟩|exact fin_ret hb rfl rfl List.take_left ⟨rfl,rfl⟩|(trace_state;fail "fin")
  | true=>
  simp -dsimp -implicitDefEqProofs only[aw,V.copy,Nat.reduceLeDiff,eq_self,reduceIte,Nat.reduceLT,Nat.reduceEqDiff,Nat.reduceAdd,Int.reduceEq,decide_false,Bool.true_and];cases h_idx:decide (x.idx=⟨#[]⟩)with
  | false=>
   simp -dsimp -implicitDefEqProofs only[aw,V.copy,cond_true,eq_self,reduceIte,Nat.reduceBEq,Nat.reduceLT,Nat.reduceEqDiff,Bool.false_and,Bool.true_and];first|exact fin_ret hb rfl rfl List.take_length ⟨rfl,rfl⟩|exact fin_ret hb rfl rfl List.take_left ⟨rfl,rfl⟩|(trace_state;fail "fin")
  | true=>
  simp -dsimp -implicitDefEqProofs only[aw,V.copy,Nat.reduceLeDiff,cond_true,cond_false,eq_self,reduceIte,Nat.reduceLT,Nat.reduceEqDiff,Nat.reduceAdd,e2,Int.reduceEq,decide_false];cases h_items:x.items.isEmpty with
  | false=>
   simp -dsimp -implicitDefEqProofs only[aw,V.copy,eq_self,reduceIte,Nat.reduceBEq,Nat.reduceLT,Nat.reduceEqDiff,Bool.false_and,Bool.true_and];first|exact fin_ret hb rfl rfl List.take_length ⟨rfl,rfl⟩|exact fin_ret hb rfl rfl List.take_left ⟨rfl,rfl⟩|(trace_state;fail "fin")
  | true=>
  simp -dsimp -implicitDefEqProofs only[aw,V.copy,Nat.reduceLeDiff,cond_true,cond_false,eq_self,reduceIte,Nat.reduceBEq,Nat.reduceLT,Nat.reduceEqDiff,Nat.reduceAdd,e3,Int.reduceEq,decide_false,Bool.true_and];cases h_els:x.els.isEmpty with
  | false=>
   simp -dsimp -implicitDefEqProofs only[aw,V.copy,eq_self,reduceIte,Nat.reduceBEq,Nat.reduceLT,Nat.reduceEqDiff,Bool.false_and,Bool.true_and];first|exact fin_ret hb rfl rfl List.take_length ⟨rfl,rfl⟩|exact fin_ret hb rfl rfl List.take_left ⟨rfl,rfl⟩|(trace_state;fail "fin")
  | true=>
  simp -dsimp -implicitDefEqProofs only[aw,V.copy,Nat.reduceLeDiff,eq_self,reduceIte,Nat.reduceLT,Nat.reduceEqDiff,Nat.reduceAdd,e4,Int.reduceEq,decide_false,Bool.true_and];cases h_bef:x.bef.isEmpty with
  | false=>
   simp -dsimp -implicitDefEqProofs only[aw,V.copy,cond_false,eq_self,reduceIte,Nat.reduceBEq,Nat.reduceLT,Nat.reduceEqDiff,Bool.false_and,Bool.true_and];first|exact fin_ret hb rfl rfl List.take_length ⟨rfl,rfl⟩|exact fin_ret hb rfl rfl List.take_left ⟨rfl,rfl⟩|(trace_state;fail "fin")
  | true=>
  simp -dsimp -implicitDefEqProofs only[aw,V.copy,Nat.reduceLeDiff,cond_true,cond_false,eq_self,reduceIte,Nat.reduceBEq,Nat.reduceLT,Nat.reduceEqDiff,Nat.reduceAdd,e5,Bool.true_and];first|exact fin_ret hb rfl rfl List.take_length ⟨rfl,rfl⟩|exact fin_ret hb rfl rfl List.take_left ⟨rfl,rfl⟩|(trace_state;fail "fin")
 ·have hp:plainB x=(blankB x.ex&&(decide (x.idx=⟨#[]⟩)&&(x.items.isEmpty&&(x.els.isEmpty&&(x.bef.isEmpty&&(x.aft.isEmpty)))))):=by unfold plainB;simp[hk];try ac_rfl
  have ha:=fun σ=>r11asks_fun x.kind σ;rw[hk,decide_eq_false (by omega)]at ha;simp -dsimp -implicitDefEqProofs only[aw,slots0,V.copy,V.lend,V.cells,V.boxable,Nat.reduceLeDiff,eq_self,reduceIte,reduceCtorEq,Nat.reduceBEq,Nat.reduceLT,Nat.reduceEqDiff,Nat.reduceAdd,vit_eq,hk];refine fun_ret (ha _) ?_;simp -dsimp -implicitDefEqProofs only[aw,V.copy,V.lend,V.lend1,bldV,Nat.reduceLeDiff,eq_self,reduceIte,Nat.reduceLT,Nat.reduceEqDiff,Nat.reduceAdd];rw[hp];refine fun_ret (hsm _) ?_;cases h_bl:blankB x.ex with
  | false=>
   simp -dsimp -implicitDefEqProofs only[aw,V.copy,cond_true,eq_self,reduceIte,Nat.reduceBEq,Nat.reduceLT,Nat.reduceEqDiff,Bool.false_and];first|exact fin_ret hb rfl rfl List.take_length ⟨rfl,rfl⟩|exact fin_ret hb rfl rfl List.take_left ⟨rfl,rfl⟩|(trace_state;fail "fin")
  | true=>
  simp -dsimp -implicitDefEqProofs only[aw,V.copy,Nat.reduceLeDiff,cond_true,cond_false,eq_self,reduceIte,Nat.reduceBEq,Nat.reduceLT,Nat.reduceEqDiff,Nat.reduceAdd,Int.reduceEq,decide_true,decide_false,Bool.true_and];cases h_idx:decide (x.idx=⟨#[]⟩)with
  | false=>
   simp -dsimp -implicitDefEqProofs only[aw,V.copy,cond_true,eq_self,reduceIte,Nat.reduceBEq,Nat.reduceLT,Nat.reduceEqDiff,Bool.false_and,Bool.true_and];first|exact fin_ret hb rfl rfl List.take_length ⟨rfl,rfl⟩|exact fin_ret hb rfl rfl List.take_left ⟨rfl,rfl⟩|(trace_state;fail "fin")
  | true=>
  simp -dsimp -implicitDefEqProofs only[aw,V.copy,Nat.reduceLeDiff,cond_true,cond_false,eq_self,reduceIte,Nat.reduceLT,Nat.reduceEqDiff,Nat.reduceAdd,e2,Int.reduceEq,decide_false];cases h_items:x.items.isEmpty with
  | false=>
   simp -dsimp -implicitDefEqProofs only[aw,V.copy,eq_self,reduceIte,Nat.reduceBEq,Nat.reduceLT,Nat.reduceEqDiff,Bool.false_and,Bool.true_and];first|exact fin_ret hb rfl rfl List.take_length ⟨rfl,rfl⟩|exact fin_ret hb rfl rfl List.take_left ⟨rfl,rfl⟩|(trace_state;fail "fin")
  | true=>
  simp -dsimp -implicitDefEqProofs only[aw,V.copy,Nat.reduceLeDiff,cond_true,cond_false,eq_self,reduceIte,Nat.reduceBEq,Nat.reduceLT,Nat.reduceEqDiff,Nat.reduceAdd,e3,Int.reduceEq,decide_false,Bool.true_and];cases h_els:x.els.isEmpty with
  | false=>
   simp -dsimp -implicitDefEqProofs only[aw,V.copy,eq_self,reduceIte,Nat.reduceBEq,Nat.reduceLT,Nat.reduceEqDiff,Bool.false_and,Bool.true_and];first|exact fin_ret hb rfl rfl List.take_length ⟨rfl,rfl⟩|exact fin_ret hb rfl rfl List.take_left ⟨rfl,rfl⟩|(trace_state;fail "fin")
  | true=>
  simp -dsimp -implicitDefEqProofs only[aw,V.copy,Nat.reduceLeDiff,eq_self,reduceIte,Nat.reduceLT,Nat.reduceEqDiff,Nat.reduceAdd,e4,Int.reduceEq,decide_false,Bool.true_and];cases h_bef:x.bef.isEmpty with
  | false=>
   simp -dsimp -implicitDefEqProofs only[aw,V.copy,cond_false,eq_self,reduceIte,Nat.reduceBEq,Nat.reduceLT,Nat.reduceEqDiff,Bool.false_and,Bool.true_and];first|exact fin_ret hb rfl rfl List.take_length ⟨rfl,rfl⟩|exact fin_ret hb rfl rfl List.take_left ⟨rfl,rfl⟩|(trace_state;fail "fin")
  | true=>
  simp -dsimp -implicitDefEqProofs only[aw,V.copy,Nat.reduceLeDiff,cond_true,cond_false,eq_self,reduceIte,Nat.reduceBEq,Nat.reduceLT,Nat.reduceEqDiff,Nat.reduceAdd,e5,Bool.true_and];first|exact fin_ret hb rfl rfl List.take_length ⟨rfl,rfl⟩|exact fin_ret hb rfl rfl List.take_left ⟨rfl,rfl⟩|(trace_state;fail "fin")
 ·have hp:plainB x=(x.ws.isEmpty&&(decide (x.name=⟨#[]⟩)&&(decide (x.idx=⟨#[]⟩)&&(x.bef.isEmpty&&(x.aft.isEmpty))))):=by unfold plainB;simp[hk];try ac_rfl
  have ha:=fun σ=>r11asks_fun x.kind σ;rw[hk,decide_eq_true (by omega)]at ha;simp -dsimp -implicitDefEqProofs only[aw,slots0,V.copy,V.lend,V.cells,V.boxable,Nat.reduceLeDiff,eq_self,reduceIte,reduceCtorEq,Nat.reduceBEq,Nat.reduceLT,Nat.reduceEqDiff,Nat.reduceAdd,vit_eq,hk];refine fun_ret (ha _) ?_;simp -dsimp -implicitDefEqProofs only[aw,V.copy,Nat.reduceLeDiff,eq_self,reduceIte,Nat.reduceLT,Nat.reduceEqDiff,Nat.reduceAdd,e1,Int.reduceEq,decide_false];rw[hp];cases h_ws:x.ws.isEmpty with
  | false=>
   simp -dsimp -implicitDefEqProofs only[aw,V.copy,cond_true,cond_false,eq_self,reduceIte,Nat.reduceBEq,Nat.reduceLT,Nat.reduceEqDiff,Bool.false_and];first|exact fin_ret hb rfl rfl List.take_length ⟨rfl,rfl⟩|exact fin_ret hb rfl rfl List.take_left ⟨rfl,rfl⟩|(trace_state;fail "fin")
  | true=>
  simp -dsimp -implicitDefEqProofs only[aw,V.copy,Nat.reduceLeDiff,cond_true,cond_false,eq_self,reduceIte,Nat.reduceBEq,Nat.reduceLT,Nat.reduceEqDiff,Nat.reduceAdd,Int.reduceEq,decide_false,Bool.true_and];cases h_name:decide (x.name=⟨#[]⟩)with
  | false=>
   simp -dsimp -implicitDefEqProofs only[aw,V.copy,eq_self,reduceIte,Nat.reduceBEq,Nat.reduceLT,Nat.reduceEqDiff,Bool.false_and,Bool.true_and];first|exact fin_ret hb rfl rfl List.take_length ⟨rfl,rfl⟩|exact fin_ret hb rfl rfl List.take_left ⟨rfl,rfl⟩|(trace_state;fail "fin")
  | true=>
  simp -dsimp -implicitDefEqProofs only[aw,V.copy,Nat.reduceLeDiff,eq_self,reduceIte,Nat.reduceLT,Nat.reduceEqDiff,Nat.reduceAdd,Int.reduceEq,decide_false,Bool.true_and];cases h_idx:decide (x.idx=⟨#[]⟩)with
  | false=>
   simp -dsimp -implicitDefEqProofs only[aw,V.copy,cond_true,eq_self,reduceIte,Nat.reduceBEq,Nat.reduceLT,Nat.reduceEqDiff,Bool.false_and,Bool.true_and];first|exact fin_ret hb rfl rfl List.take_length ⟨rfl,rfl⟩|exact fin_ret hb rfl rfl List.take_left ⟨rfl,rfl⟩|(trace_state;fail "fin")
  | true=>
  simp -dsimp -implicitDefEqProofs only[aw,V.copy,Nat.reduceLeDiff,cond_true,cond_false,eq_self,reduceIte,Nat.reduceBEq,Nat.reduceLT,Nat.reduceEqDiff,Nat.reduceAdd,e4,Int.reduceEq,decide_true,decide_false,Bool.true_and];cases h_bef:x.bef.isEmpty with
  | false=>
   simp -dsimp -implicitDefEqProofs only[aw,V.copy,cond_false,eq_self,reduceIte,Nat.reduceBEq,Nat.reduceLT,Nat.reduceEqDiff,Bool.false_and,Bool.true_and];first|exact fin_ret hb rfl rfl List.take_length ⟨rfl,rfl⟩|exact fin_ret hb rfl rfl List.take_left ⟨rfl,rfl⟩|(trace_state;fail "fin")
  | true=>
  simp -dsimp -implicitDefEqProofs only[aw,V.copy,Nat.reduceLeDiff,cond_true,cond_false,eq_self,reduceIte,Nat.reduceBEq,Nat.reduceLT,Nat.reduceEqDiff,Nat.reduceAdd,e5,Bool.true_and];first|exact fin_ret hb rfl rfl List.take_length ⟨rfl,rfl⟩|exact fin_ret hb rfl rfl List.take_left ⟨rfl,rfl⟩|(trace_state;fail "fin")
 ·have hp:plainB x=(blankB x.ex&&(x.ws.isEmpty&&(x.els.isEmpty&&(x.bef.isEmpty&&(x.aft.isEmpty))))):=by unfold plainB;simp[hk];try ac_rfl
  have ha:=fun σ=>r11asks_fun x.kind σ;rw[hk,decide_eq_false (by omega)]at ha;simp -dsimp -implicitDefEqProofs only[aw,slots0,V.copy,V.lend,V.cells,V.boxable,Nat.reduceLeDiff,eq_self,reduceIte,reduceCtorEq,Nat.reduceBEq,Nat.reduceLT,Nat.reduceEqDiff,Nat.reduceAdd,vit_eq,hk];refine fun_ret (ha _) ?_;simp -dsimp -implicitDefEqProofs only[aw,V.copy,V.lend,V.lend1,bldV,Nat.reduceLeDiff,eq_self,reduceIte,Nat.reduceLT,Nat.reduceEqDiff,Nat.reduceAdd];rw[hp];refine fun_ret (hsm _) ?_;cases h_bl:blankB x.ex with
  | false=>
   simp -dsimp -implicitDefEqProofs only[aw,V.copy,cond_true,eq_self,reduceIte,Nat.reduceBEq,Nat.reduceLT,Nat.reduceEqDiff,Bool.false_and];first|exact fin_ret hb rfl rfl List.take_length ⟨rfl,rfl⟩|exact fin_ret hb rfl rfl List.take_left ⟨rfl,rfl⟩|(trace_state;fail "fin")
  | true=>
  simp -dsimp -implicitDefEqProofs only[aw,V.copy,Nat.reduceLeDiff,cond_true,eq_self,reduceIte,Nat.reduceLT,Nat.reduceEqDiff,Nat.reduceAdd,e1,Int.reduceEq,decide_false];cases h_ws:x.ws.isEmpty with
  | false=>
   simp -dsimp -implicitDefEqProofs only[aw,V.copy,cond_true,cond_false,eq_self,reduceIte,Nat.reduceBEq,Nat.reduceLT,Nat.reduceEqDiff,Bool.false_and,Bool.true_and];first|exact fin_ret hb rfl rfl List.take_length ⟨rfl,rfl⟩|exact fin_ret hb rfl rfl List.take_left ⟨rfl,rfl⟩|(trace_state;fail "fin")
  | true=>
  simp -dsimp -implicitDefEqProofs only[aw,V.copy,Nat.reduceLeDiff,cond_true,cond_false,eq_self,reduceIte,Nat.reduceBEq,Nat.reduceLT,Nat.reduceEqDiff,Nat.reduceAdd,e3,Int.reduceEq,decide_true,decide_false,Bool.true_and];cases h_els:x.els.isEmpty with
  | false=>
   simp -dsimp -implicitDefEqProofs only[aw,V.copy,eq_self,reduceIte,Nat.reduceBEq,Nat.reduceLT,Nat.reduceEqDiff,Bool.false_and,Bool.true_and];first|exact fin_ret hb rfl rfl List.take_length ⟨rfl,rfl⟩|exact fin_ret hb rfl rfl List.take_left ⟨rfl,rfl⟩|(trace_state;fail "fin")
  | true=>
  simp -dsimp -implicitDefEqProofs only[aw,V.copy,Nat.reduceLeDiff,eq_self,reduceIte,Nat.reduceLT,Nat.reduceEqDiff,Nat.reduceAdd,e4,Int.reduceEq,decide_false,Bool.true_and];cases h_bef:x.bef.isEmpty with
  | false=>
   simp -dsimp -implicitDefEqProofs only[aw,V.copy,cond_false,eq_self,reduceIte,Nat.reduceBEq,Nat.reduceLT,Nat.reduceEqDiff,Bool.false_and,Bool.true_and];first|exact fin_ret hb rfl rfl List.take_length ⟨rfl,rfl⟩|exact fin_ret hb rfl rfl List.take_left ⟨rfl,rfl⟩|(trace_state;fail "fin")
  | true=>
  simp -dsimp -implicitDefEqProofs only[aw,V.copy,Nat.reduceLeDiff,cond_true,cond_false,eq_self,reduceIte,Nat.reduceBEq,Nat.reduceLT,Nat.reduceEqDiff,Nat.reduceAdd,e5,Bool.true_and];first|exact fin_ret hb rfl rfl List.take_length ⟨rfl,rfl⟩|exact fin_ret hb rfl rfl List.take_left ⟨rfl,rfl⟩|(trace_state;fail "fin")
 ·have hp:plainB x=(blankB x.ex&&(x.ws.isEmpty&&(decide (x.name=⟨#[]⟩)&&(decide (x.idx=⟨#[]⟩)&&(x.items.isEmpty&&(x.els.isEmpty)))))):=by unfold plainB;simp[hk];try ac_rfl
  have ha:=fun σ=>r11asks_fun x.kind σ;rw[hk,decide_eq_false (by omega)]at ha;simp -dsimp -implicitDefEqProofs only[aw,slots0,V.copy,V.lend,V.cells,V.boxable,Nat.reduceLeDiff,eq_self,reduceIte,reduceCtorEq,Nat.reduceBEq,Nat.reduceLT,Nat.reduceEqDiff,Nat.reduceAdd,vit_eq,hk];refine fun_ret (ha _) ?_;simp -dsimp -implicitDefEqProofs only[aw,V.copy,V.lend,V.lend1,bldV,Nat.reduceLeDiff,eq_self,reduceIte,Nat.reduceLT,Nat.reduceEqDiff,Nat.reduceAdd];rw[hp];refine fun_ret (hsm _) ?_;cases h_bl:blankB x.ex with
  | false=>
   simp -dsimp -implicitDefEqProofs only[aw,V.copy,cond_true,eq_self,reduceIte,Nat.reduceBEq,Nat.reduceLT,Nat.reduceEqDiff,Bool.false_and];first|exact fin_ret hb rfl rfl List.take_length ⟨rfl,rfl⟩|exact fin_ret hb rfl rfl List.take_left ⟨rfl,rfl⟩|(trace_state;fail "fin")
  | true=>
  simp -dsimp -implicitDefEqProofs only[aw,V.copy,Nat.reduceLeDiff,cond_true,eq_self,reduceIte,Nat.reduceLT,Nat.reduceEqDiff,Nat.reduceAdd,e1,Int.reduceEq,decide_false];cases h_ws:x.ws.isEmpty with
  | false=>
   simp -dsimp -implicitDefEqProofs only[aw,V.copy,cond_true,cond_false,eq_self,reduceIte,Nat.reduceBEq,Nat.reduceLT,Nat.reduceEqDiff,Bool.false_and,Bool.true_and];first|exact fin_ret hb rfl rfl List.take_length ⟨rfl,rfl⟩|exact fin_ret hb rfl rfl List.take_left ⟨rfl,rfl⟩|(trace_state;fail "fin")
  | true=>
  simp -dsimp -implicitDefEqProofs only[aw,V.copy,Nat.reduceLeDiff,cond_true,cond_false,eq_self,reduceIte,Nat.reduceBEq,Nat.reduceLT,Nat.reduceEqDiff,Nat.reduceAdd,Int.reduceEq,decide_false,Bool.true_and];cases h_name:decide (x.name=⟨#[]⟩)with
  | false=>
   simp -dsimp -implicitDefEqProofs only[aw,V.copy,eq_self,reduceIte,Nat.reduceBEq,Nat.reduceLT,Nat.reduceEqDiff,Bool.false_and,Bool.true_and];first|exact fin_ret hb rfl rfl List.take_length ⟨rfl,rfl⟩|exact fin_ret hb rfl rfl List.take_left ⟨rfl,rfl⟩|(trace_state;fail "fin")
  | true=>
  simp -dsimp -implicitDefEqProofs only[aw,V.copy,Nat.reduceLeDiff,eq_self,reduceIte,Nat.reduceLT,Nat.reduceEqDiff,Nat.reduceAdd,Int.reduceEq,decide_false,Bool.true_and];cases h_idx:decide (x.idx=⟨#[]⟩)with
  | false=>
   simp -dsimp -implicitDefEqProofs only[aw,V.copy,cond_true,eq_self,reduceIte,Nat.reduceBEq,Nat.reduceLT,Nat.reduceEqDiff,Bool.false_and,Bool.true_and];first|exact fin_ret hb rfl rfl List.take_length ⟨rfl,rfl⟩|exact fin_ret hb rfl rfl List.take_left ⟨rfl,rfl⟩|(trace_state;fail "fin")
  | true=>
  simp -dsimp -implicitDefEqProofs only[aw,V.copy,Nat.reduceLeDiff,cond_true,cond_false,eq_self,reduceIte,Nat.reduceLT,Nat.reduceEqDiff,Nat.reduceAdd,e2,Int.reduceEq,decide_false];cases h_items:x.items.isEmpty with
  | false=>
   simp -dsimp -implicitDefEqProofs only[aw,V.copy,eq_self,reduceIte,Nat.reduceBEq,Nat.reduceLT,Nat.reduceEqDiff,Bool.false_and,Bool.true_and];first|exact fin_ret hb rfl rfl List.take_length ⟨rfl,rfl⟩|exact fin_ret hb rfl rfl List.take_left ⟨rfl,rfl⟩|(trace_state;fail "fin")
  | true=>
  simp -dsimp -implicitDefEqProofs only[aw,V.copy,Nat.reduceLeDiff,cond_true,cond_false,eq_self,reduceIte,Nat.reduceBEq,Nat.reduceLT,Nat.reduceEqDiff,Nat.reduceAdd,e3,Int.reduceEq,decide_false,Bool.true_and];cases h_els:x.els.isEmpty with
  | false=>
   simp -dsimp -implicitDefEqProofs only[aw,V.copy,eq_self,reduceIte,Nat.reduceBEq,Nat.reduceLT,Nat.reduceEqDiff,Bool.true_and];first|exact fin_ret hb rfl rfl List.take_length ⟨rfl,rfl⟩|exact fin_ret hb rfl rfl List.take_left ⟨rfl,rfl⟩|(trace_state;fail "fin")
  | true=>
  simp -dsimp -implicitDefEqProofs only[aw,V.copy,Nat.reduceLeDiff,eq_self,reduceIte,Nat.reduceBEq,Nat.reduceLT,Nat.reduceEqDiff,Nat.reduceAdd,decide_true];first|exact fin_ret hb rfl rfl List.take_length ⟨rfl,rfl⟩|exact fin_ret hb rfl rfl List.take_left ⟨rfl,rfl⟩|(trace_state;fail "fin")
set_option maxHeartbeats 4000000 in
theorem dist_fun(x:It)(hbig:ibig x≤1200000)(σ:List (List V)):Fun G 97 [vit x] σ (RetV (.d (dint (distE x))) σ):=by
 have hb0:=ibig_eq x;refine fun_code Tryz.func97 k97 (by simp only[vit_eq];rfl) fun hb hw=>?_;unfold c97;by_cases h1:x.ws.length>16
 ·have h1':((16:Int)<((x.ws.length:Nat):Int)):=by omega
  have hr:distE x=2:=by unfold distE;rw[if_pos h1]
  rw[hr];simp -dsimp -implicitDefEqProofs only[aw,slots0,V.copy,V.cells,V.boxable,Nat.reduceLeDiff,eq_self,reduceIte,reduceCtorEq,Nat.reduceBEq,Nat.reduceLT,Nat.reduceEqDiff,Nat.reduceAdd,vit_eq,decide_eq_true h1'];first|exact fin_ret hb rfl rfl List.take_length ⟨rfl,rfl⟩|exact fin_ret hb rfl rfl List.take_left ⟨rfl,rfl⟩|(trace_state;fail "fin")
 have h1':¬((16:Int)<((x.ws.length:Nat):Int)):=by omega
 by_cases h2:x.ws=[]
 ·have h2':((x.ws.length:Nat):Int)=0:=by rw[h2];rfl
  have hr:distE x=1:=by unfold distE;rw[if_neg h1,if_pos h2]
  rw[hr];simp -dsimp -implicitDefEqProofs only[aw,slots0,V.copy,V.cells,V.boxable,Nat.reduceLeDiff,eq_self,reduceIte,reduceCtorEq,Nat.reduceBEq,Nat.reduceLT,Nat.reduceEqDiff,Nat.reduceAdd,vit_eq,decide_eq_false h1',decide_eq_true h2'];first|exact fin_ret hb rfl rfl List.take_length ⟨rfl,rfl⟩|exact fin_ret hb rfl rfl List.take_left ⟨rfl,rfl⟩|(trace_state;fail "fin")
 have h2':¬(((x.ws.length:Nat):Int)=0):=by have:=List.length_pos_iff.2 h2;omega
 have hr:distE x=if x.ws.all wtB=false then 1 else if isVarB x.name=true then 0 else 7:=by unfold distE;rw[if_neg h1,if_neg h2]
 rw[hr];simp -dsimp -implicitDefEqProofs only[aw,slots0,V.copy,V.cells,V.boxable,Nat.reduceLeDiff,eq_self,reduceIte,reduceCtorEq,Nat.reduceBEq,Nat.reduceLT,Nat.reduceEqDiff,Nat.reduceAdd,vit_eq,decide_eq_false h1',decide_eq_false h2'];refine awp_for (R:=fun(j:Nat) ρ σ'=>ρ=[(1,.ptr σ.length 0),(3,vint .i64 j)]∧σ'=σ++[[.d (dint x.kind),.d (dint x.ex.op),.d (dint x.ex.num),.d (dstr x.ex.name),.d (.sl (x.ex.args.map dex)),.d (dstr x.name),.d (dstr x.idx),.d (.sl (x.ws.map dwt)),.d (.sl (x.items.map dit)),.d (.sl (x.els.map dit)),.d (.sl (x.bef.map fun s=>[dstr s])),.d (.sl (x.aft.map fun s=>[dstr s]))]]∧x.ws.all wtB=(x.ws.drop j).all wtB) x.ws.length ⟨rfl,rfl,rfl⟩ ?_ _;rintro j ρ' σ' hj ⟨rfl,rfl,hrr⟩;by_cases hlt:j<x.ws.length
 ·rw[List.drop_eq_getElem_cons hlt,List.all_cons]at hrr;have hxx:x.ws[j]? = some x.ws[j]:=List.getElem?_eq_getElem hlt;generalize x.ws[j]=w at hrr hxx;have hd:dwt w=[dint w.lo,dint w.hi,dint w.w,dbl w.each]:=rfl;have wj:=wrap_nat hlt (show x.ws.length≤9223372036854775807 by omega);have good:wtB w=true→x.ws.all wtB=(x.ws.drop (j+1)).all wtB:=fun h=>by rw[hrr,h,Bool.true_and]
  have bad:wtB w=false→(if x.ws.all wtB=false then(1:Int)else if isVarB x.name=true then 0 else 7)=1:=fun h=>by rw[hrr,h,Bool.false_and,if_pos rfl]
  by_cases q1:w.lo<0
  ·rw[bad (by unfold wtB;simp;intro;omega)];simp -dsimp -implicitDefEqProofs only[aw,V.copy,V.cells,V.boxable,over,Nat.reduceLeDiff,eq_self,reduceIte,Nat.reduceBEq,Nat.reduceLT,Nat.reduceEqDiff,Nat.reduceAdd,Int.ofNat_lt,hlt,decide_true,hxx,hd,decide_eq_true q1];first|exact fin_ret hb rfl rfl List.take_length ⟨rfl,rfl⟩|exact fin_ret hb rfl rfl List.take_left ⟨rfl,rfl⟩|(trace_state;fail "fin")
  by_cases q2:w.hi<w.lo
  ·rw[bad (by unfold wtB;simp;intro _ _;omega)];simp -dsimp -implicitDefEqProofs only[aw,V.copy,V.cells,V.boxable,over,Nat.reduceLeDiff,cond_false,eq_self,reduceIte,Nat.reduceBEq,Nat.reduceLT,Nat.reduceEqDiff,Nat.reduceAdd,Int.ofNat_lt,hlt,decide_true,hxx,hd,decide_eq_false q1,decide_eq_true q2];first|exact fin_ret hb rfl rfl List.take_length ⟨rfl,rfl⟩|exact fin_ret hb rfl rfl List.take_left ⟨rfl,rfl⟩|(trace_state;fail "fin")
  by_cases q3:65535<w.hi
  ·rw[bad (by unfold wtB;simp;intro _ _ _;omega)];simp -dsimp -implicitDefEqProofs only[aw,V.copy,V.cells,V.boxable,over,Nat.reduceLeDiff,cond_false,eq_self,reduceIte,Nat.reduceBEq,Nat.reduceLT,Nat.reduceEqDiff,Nat.reduceAdd,Int.ofNat_lt,hlt,decide_true,hxx,hd,decide_eq_false q1,decide_eq_false q2,decide_eq_true q3];first|exact fin_ret hb rfl rfl List.take_length ⟨rfl,rfl⟩|exact fin_ret hb rfl rfl List.take_left ⟨rfl,rfl⟩|(trace_state;fail "fin")
  by_cases q4:w.w<0
  ·rw[bad (by unfold wtB;simp;intro _ _ _ _;omega)];simp -dsimp -implicitDefEqProofs only[aw,V.copy,V.cells,V.boxable,over,Nat.reduceLeDiff,cond_false,eq_self,reduceIte,Nat.reduceBEq,Nat.reduceLT,Nat.reduceEqDiff,Nat.reduceAdd,Int.ofNat_lt,hlt,decide_true,hxx,hd,decide_eq_false q1,decide_eq_false q2,decide_eq_false q3,decide_eq_true q4];first|exact fin_ret hb rfl rfl List.take_length ⟨rfl,rfl⟩|exact fin_ret hb rfl rfl List.take_left ⟨rfl,rfl⟩|(trace_state;fail "fin")
  by_cases q5:1000<w.w
  ·rw[bad (by unfold wtB;simp;intro _ _ _ _;omega)];simp -dsimp -implicitDefEqProofs only[aw,V.copy,V.cells,V.boxable,over,Nat.reduceLeDiff,cond_false,eq_self,reduceIte,Nat.reduceBEq,Nat.reduceLT,Nat.reduceEqDiff,Nat.reduceAdd,Int.ofNat_lt,hlt,decide_true,hxx,hd,decide_eq_false q1,decide_eq_false q2,decide_eq_false q3,decide_eq_false q4,decide_eq_true q5];first|exact fin_ret hb rfl rfl List.take_length ⟨rfl,rfl⟩|exact fin_ret hb rfl rfl List.take_left ⟨rfl,rfl⟩|(trace_state;fail "fin")
  have hg:=good (by unfold wtB;simp;omega);simp -dsimp -implicitDefEqProofs only[aw,V.copy,V.cells,V.boxable,over,Nat.reduceLeDiff,cond_false,eq_self,reduceIte,Nat.reduceBEq,Nat.reduceLT,Nat.reduceEqDiff,Nat.reduceAdd,Int.ofNat_lt,hlt,decide_true,hxx,hd,decide_eq_false q1,decide_eq_false q2,decide_eq_false q3,decide_eq_false q4,decide_eq_false q5,wj];have e3:∀a b:List V,σ++[a,b]=(σ++[a])++[b]:=fun a b=>by simp
  rw[e3];exact Nxt.drop (by simp) (boxesBelow_app hb rfl) (by simp[slotsBelow,V.under]) ⟨rfl,rfl,hg⟩
 ·rw[List.drop_eq_nil_of_le (by omega)]at hrr;rw[hrr,List.all_nil,if_neg (by simp)];simp -dsimp -implicitDefEqProofs only[aw,V.copy,V.lend,Nat.reduceLeDiff,eq_self,reduceIte,Nat.reduceBEq,Nat.reduceLT,Nat.reduceEqDiff,Nat.reduceAdd,Int.ofNat_lt,hlt,decide_false];refine fun_ret (risvar_fun x.name _) ?_;cases hi:isVarB x.name with
  | true=>
   simp -dsimp -implicitDefEqProofs only[aw,V.copy,eq_self,reduceIte,Nat.reduceBEq,Nat.reduceLT,Nat.reduceEqDiff];first|exact fin_ret hb rfl rfl List.take_length ⟨rfl,rfl⟩|exact fin_ret hb rfl rfl List.take_left ⟨rfl,rfl⟩|(trace_state;fail "fin")
  | false=>
   simp -dsimp -implicitDefEqProofs only[aw,V.copy,eq_self,reduceIte,Nat.reduceBEq,Nat.reduceLT,Nat.reduceEqDiff];first|exact fin_ret hb rfl rfl List.take_length ⟨rfl,rfl⟩|exact fin_ret hb rfl rfl List.take_left ⟨rfl,rfl⟩|(trace_state;fail "fin")
theorem vars_fun(l:List ByteArray)(hl:l.length≤1200000)(σ:List (List V)):Fun G 98 [.d (dstrs l)] σ (RetV (vbool (l.all isVarB)) σ):=by
 refine fun_code Tryz.func98 k98 rfl fun hb hw=>?_;unfold c98;simp -dsimp -implicitDefEqProofs only[aw,slots0,V.copy,eq_self,reduceIte,reduceCtorEq,Nat.reduceBEq,Nat.reduceLT,dstrs];refine awp_for (R:=fun(j:Nat) ρ σ'=>ρ=[(0,.d (.sl (l.map fun s=>[dstr s]))),(3,vint .i64 j)]∧σ'=σ∧l.all isVarB=(l.drop j).all isVarB) l.length ⟨rfl,rfl,rfl⟩ ?_ _;rintro j ρ' σ' hj ⟨rfl,rfl,hr⟩;by_cases hlt:j<l.length
 ·rw[isvar_all l hlt]at hr;have wj:=wrap_nat hlt (show l.length≤9223372036854775807 by omega);simp -dsimp -implicitDefEqProofs only[aw,V.copy,V.lend,Nat.reduceLeDiff,eq_self,reduceIte,reduceCtorEq,Nat.reduceBEq,Nat.reduceLT,Nat.reduceEqDiff,Int.ofNat_lt,hlt,decide_true,List.getElem?_eq_getElem hlt];refine fun_ret (risvar_fun l[j] _) ?_;cases hi:isVarB l[j]with
  | true=>
   simp -dsimp -implicitDefEqProofs only[aw,V.copy,eq_self,reduceIte,reduceCtorEq,Nat.reduceBEq,Nat.reduceLT,Nat.reduceEqDiff,wj];exact⟨hlt,Nxt.same (Nat.le_refl _) hb (by simp[slotsBelow,V.under]) ⟨rfl,rfl,by rw[hr,hi,Bool.true_and]⟩⟩
  | false=>
   rw[hr,hi,Bool.false_and];simp -dsimp -implicitDefEqProofs only[aw,V.copy,eq_self,reduceIte,reduceCtorEq,Nat.reduceBEq,Nat.reduceLT,Nat.reduceEqDiff];first|exact fin_ret hb rfl rfl List.take_length ⟨rfl,rfl⟩|exact fin_ret hb rfl rfl List.take_left ⟨rfl,rfl⟩|(trace_state;fail "fin")
 ·rw[List.drop_eq_nil_of_le (by omega)]at hr;rw[hr,List.all_nil];simp -dsimp -implicitDefEqProofs only[aw,V.copy,eq_self,reduceIte,reduceCtorEq,Nat.reduceBEq,Nat.reduceLT,Nat.reduceEqDiff,Int.ofNat_lt,hlt,decide_false];first|exact fin_ret hb rfl rfl List.take_length ⟨rfl,rfl⟩|exact fin_ret hb rfl rfl List.take_left ⟨rfl,rfl⟩|(trace_state;fail "fin")
end Go.Proofs.YtcbahpllcfbkmaaGreatDoor
