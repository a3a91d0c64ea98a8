import Derived.Test.YtcbahpllcfbkmaaGreatDoorK3
import Derived.Test.YtcbahpllcfbkmaaGreatDoorLib7
import Derived.Test.YtcbahpllcfbkmaaGreatDoorBr8
import Derived.Test.YtcbahpllcfbkmaaGreatDoorData
import Derived.Test.YtcbahpllcfbkmaaGreatDoorNames2
import Derived.Test.YtcbahpllcfbkmaaGreatDoorK
set_option linter.unusedVariables false
set_option linter.unusedSimpArgs false
set_option linter.unusedSectionVars false
namespace Go.Proofs.YtcbahpllcfbkmaaGreatDoor
open Go.RowKit
theorem its_ind2{P:List It→Prop}(h:∀l,(∀a,a∈l→P a.items∧P a.els)→P l):∀l,P l:=by
 have H:∀n l,iszs l≤n→P l:=by
  intro n
  induction n with
  | zero=>
   intro l hl;refine h l fun a ha=>?_;have:=iszs_mem ha;have:=isz_pos a;omega
  | succ n ih=>
   intro l hl;refine h l fun a ha=>?_;have h1:=iszs_mem ha;have h2:=isz_eq a;exact⟨ih _ (by omega),ih _ (by omega)⟩
 exact fun l=>H _ l (Nat.le_refl _)
theorem its_take(f:List It→Nat)(g:It→Nat)(h0:f []=0)(hc:∀a r,f (a::r)=g a+f r)(l:List It){j:Nat}(h:j<l.length):f (l.take (j+1))=f (l.take j)+g l[j]:=by
 induction l generalizing j with
 | nil=>simp at h
 | cons a r ih=>
  cases j with
  | zero=>simp only[List.take_succ_cons,List.take_zero,hc,h0,List.getElem_cons_zero];omega
  | succ j=>simp only[List.take_succ_cons,hc,List.getElem_cons_succ];rw[ih (by simpa using h)];omega
theorem iszs_take(l:List It){j:Nat}(h:j<l.length):iszs (l.take (j+1))=iszs (l.take j)+isz l[j]:=its_take iszs isz rfl (fun _ _=>rfl) l h
theorem iszs_take_le(l:List It)(j:Nat):iszs (l.take j)≤iszs l:=by
 induction l generalizing j with
 | nil=>simp
 | cons a r ih=>cases j with
  | zero=>simp[iszs]
  | succ j=>rw[List.take_succ_cons,iszs,iszs];have:=ih j;omega
theorem isize_fun:∀l:List It,iszs l≤1200000→∀σ,Fun G 56 [.d (ditl l)] σ (RetV (.d (dint (iszs l:Nat))) σ):=by
 refine its_ind2 fun l ih hs σ=>?_;refine fun_code Tryz.func56 k56 rfl fun hb hw=>?_;unfold c56;have hln:=iszs_len l;simp -dsimp -implicitDefEqProofs only[aw,slots0,V.copy,eq_self,reduceIte,reduceCtorEq,Nat.reduceBEq,Nat.reduceLT,Nat.reduceEqDiff];refine awp_forK [3,6,7,8] (fun(j:Nat) ρ σ'=>ρ=[(3,vint .i64 (iszs (l.take j):Nat)),(6,.d (ditl l)),(7,vint .i64 l.length),(8,vint .i64 j)]∧σ'=σ) l.length ⟨rfl,rfl⟩ ?_ _;rintro j ρ' σ' hj ⟨rfl,rfl⟩;by_cases hlt:j<l.length
 ·have ht:=iszs_take l hlt;have hle:=iszs_take_le l (j+1);have he:=isz_eq l[j];have w1:IntKind.i64.wrap (1+((iszs l[j].items:Nat):Int))=((1+iszs l[j].items:Nat):Int):=by rw[wrap_i64 (by omega) (by omega)];omega
  have w2:IntKind.i64.wrap (((1+iszs l[j].items:Nat):Int)+((iszs l[j].els:Nat):Int))=((isz l[j]:Nat):Int):=by rw[wrap_i64 (by omega) (by omega)];omega
  have w3:IntKind.i64.wrap (((iszs (l.take j):Nat):Int)+((isz l[j]:Nat):Int))=((iszs (l.take (j+1)):Nat):Int):=by rw[wrap_i64 (by omega) (by omega)];omega
  obtain⟨i1,i2⟩:=ih _ (List.getElem_mem hlt);simp -dsimp -implicitDefEqProofs only[aw,V.copy,V.lend,V.cells,V.boxable,over,Nat.reduceLeDiff,eq_self,reduceIte,Nat.reduceBEq,Nat.reduceLT,Nat.reduceEqDiff,Nat.reduceAdd,Int.ofNat_lt,hlt,decide_true,List.getElem?_eq_getElem hlt,dit_eq l[j]];refine calm_ret (i1 (by omega) _) ?_;simp -dsimp -implicitDefEqProofs only[aw,V.copy,V.lend,Nat.reduceLeDiff,eq_self,reduceIte,Nat.reduceLT,Nat.reduceEqDiff,Nat.reduceAdd];refine calm_ret (i2 (by omega) _) ?_;simp -dsimp -implicitDefEqProofs only[aw,V.copy,eq_self,reduceIte,Nat.reduceBEq,Nat.reduceLT,Nat.reduceEqDiff,w1,w2,w3,wrap_nat hlt (show l.length≤9223372036854775807 by omega)];exact⟨hlt,Nxt.drop (Nat.le_refl _) hb rfl ⟨rfl,rfl⟩⟩
 ·simp -dsimp -implicitDefEqProofs only[aw,V.copy,eq_self,reduceIte,Nat.reduceBEq,Nat.reduceLT,Nat.reduceEqDiff,Int.ofNat_lt,hlt,decide_false];rw[List.take_of_length_le (by omega)];first|exact fin_ret hb rfl rfl List.take_length ⟨rfl,rfl⟩|exact fin_ret hb rfl rfl List.take_left ⟨rfl,rfl⟩|(trace_state;fail "fin")
theorem risize_fun:∀l:List It,iszs l≤1200000→∀σ,Fun G 40 [.d (ditl l)] σ (RetV (.d (dint (iszs l:Nat))) σ):=by
 refine its_ind2 fun l ih hs σ=>?_;refine fun_code Tryz.func40 k40 rfl fun hb hw=>?_;unfold c40;have hln:=iszs_len l;simp -dsimp -implicitDefEqProofs only[aw,slots0,V.copy,eq_self,reduceIte,reduceCtorEq,Nat.reduceBEq,Nat.reduceLT,Nat.reduceEqDiff];refine awp_forK [0,3,4] (fun(j:Nat) ρ σ'=>∃m:Nat,ρ=[(0,.d (ditl l)),(3,vint .i64 (m:Nat)),(4,vint .i64 j)]∧m+j=l.length+iszs (l.take j)∧σ'=σ) l.length ⟨l.length,rfl,by simp[iszs],rfl⟩ ?_ _;rintro j ρ' σ' hj ⟨m,rfl,hm,rfl⟩;by_cases hlt:j<l.length
 ·have ht:=iszs_take l hlt;have hle:=iszs_take_le l (j+1);have he:=isz_eq l[j];have w1:IntKind.i64.wrap (((m:Nat):Int)+((iszs l[j].items:Nat):Int))=((m+iszs l[j].items:Nat):Int):=by rw[wrap_i64 (by omega) (by omega)];omega
  have w2:IntKind.i64.wrap (((m+iszs l[j].items:Nat):Int)+((iszs l[j].els:Nat):Int))=((m+iszs l[j].items+iszs l[j].els:Nat):Int):=by rw[wrap_i64 (by omega) (by omega)];omega
  obtain⟨i1,i2⟩:=ih _ (List.getElem_mem hlt);simp -dsimp -implicitDefEqProofs only[aw,V.copy,V.lend,Nat.reduceLeDiff,eq_self,reduceIte,reduceCtorEq,Nat.reduceBEq,Nat.reduceLT,Nat.reduceEqDiff,Nat.reduceAdd,Int.ofNat_lt,hlt,decide_true,List.getElem?_eq_getElem hlt,dit_eq l[j]];refine calm_ret (i1 (by omega) _) ?_;simp -dsimp -implicitDefEqProofs only[aw,V.copy,V.lend,Nat.reduceLeDiff,eq_self,reduceIte,reduceCtorEq,Nat.reduceLT,Nat.reduceEqDiff,Nat.reduceAdd,List.getElem?_eq_getElem hlt,dit_eq l[j]];refine calm_ret (i2 (by omega) _) ?_;simp -dsimp -implicitDefEqProofs only[aw,V.copy,eq_self,reduceIte,reduceCtorEq,Nat.reduceBEq,Nat.reduceLT,Nat.reduceEqDiff,w1,w2,wrap_nat hlt (show l.length≤9223372036854775807 by omega)];exact⟨hlt,Nxt.same (Nat.le_refl _) hb rfl ⟨_,rfl,by omega,rfl⟩⟩
 ·simp -dsimp -implicitDefEqProofs only[aw,V.copy,eq_self,reduceIte,reduceCtorEq,Nat.reduceBEq,Nat.reduceLT,Nat.reduceEqDiff,Int.ofNat_lt,hlt,decide_false];have:m=iszs l:=by rw[List.take_of_length_le (by omega)]at hm;omega
  subst this;first|exact fin_ret hb rfl rfl List.take_length ⟨rfl,rfl⟩|exact fin_ret hb rfl rfl List.take_left ⟨rfl,rfl⟩|(trace_state;fail "fin")
theorem fun_lname(s:ByteArray)(σ:List (List V)):Fun G 65 [.d (dstr s)] σ (RetV (.d (.lit (.bool (nameB s)))) σ):=
 fun_of1c Tryz.func65 (by kernel_rfl) (by kernel_rfl) trivial fun M bm w v hG hM hr=>by
  cases hr with
  | d hr=>cases hr with
   | lit _ hf=>exact isname_any s w (by simpa[Fits,maxLen]using hf) (keys_of hG hM)
theorem isvar_fun(s:ByteArray)(σ:List (List V)):Fun G 87 [.d (dstr s)] σ (RetV (vbool (isVarB s)) σ):=by
 refine fun_code Tryz.func87 k87 rfl fun hb hw=>?_;unfold c87
 have hv:(validE (.mk 2 0 s [])=0)=(isVarB s=true):=by
  unfold validE
  have h1:errE (.mk 2 0 s [])=if isVarB s=true then 0 else 7:=by
   rw[errE,errL];unfold nodeErr;cases hv:isVarB s<;>simp[namedB,operB,arity]
  rw[h1];cases hv:isVarB s<;>simp[edepth,edepths,esize,esizes]
 simp -dsimp -implicitDefEqProofs only[aw,slots0,V.copy,V.lend,V.lend1,V.cells,over,bldV,Nat.reduceLeDiff,eq_self,reduceIte,reduceCtorEq,Nat.reduceBEq,Nat.reduceLT,Nat.reduceEqDiff,Nat.reduceAdd];refine fun_ret (v:=.d (dint (validE (.mk 2 0 s [])))) (by have:=fun_valid (.mk 2 0 s []) (by simp[esize,esizes]) (by simp[edepth,edepths]) σ;simpa only[vex_eq,Ex.op,Ex.num,Ex.name,Ex.args,List.map_nil]using this) ?_;have hd:decide (validE (.mk 2 0 s [])=0)=isVarB s:=by rw[Bool.eq_iff_iff,decide_eq_true_eq,hv]
 simp -dsimp -implicitDefEqProofs only[aw,V.copy,eq_self,reduceIte,reduceCtorEq,Nat.reduceBEq,Nat.reduceLT,Nat.reduceEqDiff,hd];first|exact fin_ret hb rfl rfl List.take_length ⟨rfl,rfl⟩|exact fin_ret hb rfl rfl List.take_left ⟨rfl,rfl⟩|(trace_state;fail "fin")
theorem blank_fun(e:Ex)(hl:e.args.length≤1200000)(σ:List (List V)):Fun G 114 [vex e] σ (RetV (vbool (blankB e)) σ):=by
 refine fun_code Tryz.func114 k114 (by simp only[vex_eq];rfl) fun hb hw=>?_;unfold c114;have hlen:decide (((e.args.length:Nat):Int)=0)=e.args.isEmpty:=by cases e.args<;>simp;omega
 unfold blankB;simp -dsimp -implicitDefEqProofs only[aw,slots0,V.copy,V.cells,V.boxable,Nat.reduceLeDiff,eq_self,reduceIte,reduceCtorEq,Nat.reduceBEq,Nat.reduceLT,Nat.reduceEqDiff,Nat.reduceAdd,vex_eq];all_goals (repeat' (first|(refine iteT_intro (fun h1=>?_) (fun h1=>?_)<;>(simp -dsimp -implicitDefEqProofs only[aw,V.copy,Nat.reduceLeDiff,cond_true,eq_self,reduceIte,Nat.reduceBEq,Nat.reduceLT,Nat.reduceEqDiff,Nat.reduceAdd,h1,hlen];try rw[h1]))))
 all_goals first|exact fin_ret hb rfl rfl List.take_length ⟨rfl,rfl⟩|exact fin_ret hb rfl rfl List.take_left ⟨rfl,rfl⟩|(trace_state;fail "fin")
theorem len_empty{α:Type}(l:List α):decide (((l.length:Nat):Int)=0)=l.isEmpty:=by cases l<;>simp;omega
theorem len_empty2{α β:Type}(l:List α)(m:List β):decide ((((l.length+m.length:Nat)):Int)=0)=(l.isEmpty&&m.isEmpty):=by cases l<;>cases m<;>simp<;>omega
abbrev vuse(u:List Bool):V:=.agg (u.map vbool)
def useK(k:Int):List Bool:=if k=1∨k=2 then[true,false,false,false,false,false,false]else if k=3 then[false,true,false,true,false,false,false]else if k=4 then[true,false,false,false,true,true,false]
 else if k=5 then[false,true,true,false,true,false,false]else[false,false,false,false,false,false,true]
set_option maxRecDepth 20000 in
set_option maxHeartbeats 4000000 in
theorem plain_fun(x:It)(hbig:ibig x≤1200000)(hk:1≤x.kind∧x.kind≤6)(σ:List (List V)):Fun G 85 [vit x,vuse (useK x.kind)] σ (RetV (vbool (plainB x)) σ):=by
 have hb0:=ibig_eq x
 have h3:x.ex.args.length≤1200000:=by
  have h2:esizes x.ex.args≤esize x.ex:=by cases x.ex;simp only[esize,Ex.args];omega
  have:=len_le x.ex.args;omega
 have w1:IntKind.i64.wrap (((x.bef.length:Nat):Int)+((x.aft.length:Nat):Int))=((x.bef.length+x.aft.length:Nat):Int):=by rw[wrap_i64 (by omega) (by omega)];omega
 have e1:=len_empty x.ws;have e2:=len_empty x.items;have e3:=len_empty x.els;have e4:=len_empty2 x.bef x.aft;have hk6:x.kind=1∨x.kind=2∨x.kind=3∨x.kind=4∨x.kind=5∨x.kind=6:=by omega
 refine fun_code Tryz.func85 k85 (by simp only[vit_eq];rfl) fun hb hw=>?_;unfold c85;have hbl:=fun σ=>blank_fun x.ex h3 σ;simp only[vex_eq]at hbl;rcases hk6 with hk|hk|hk|hk|hk|hk
 ·have hp:plainB x=(decide (x.name=⟨#[]⟩)&&decide (x.idx=⟨#[]⟩)&&x.ws.isEmpty&&x.items.isEmpty&&x.els.isEmpty&&(x.bef.isEmpty&&x.aft.isEmpty)):=by unfold plainB;simp[hk]
  have hu:useK x.kind=[true,false,false,false,false,false,false]:=by unfold useK;simp[hk]
  rw[hp,hu];simp -dsimp -implicitDefEqProofs only[aw,slots0,V.copy,V.cells,V.boxable,Nat.reduceLeDiff,cond_true,cond_false,eq_self,reduceIte,reduceCtorEq,Nat.reduceBEq,Nat.reduceLT,Nat.reduceEqDiff,Nat.reduceAdd,vit_eq];all_goals (repeat' (first|(refine iteT_intro (fun h1=>?_) (fun h1=>?_)<;>(simp -dsimp -implicitDefEqProofs only[aw,V.copy,Nat.reduceLeDiff,cond_true,cond_false,eq_self,reduceIte,Nat.reduceBEq,Nat.reduceLT,Nat.reduceEqDiff,Nat.reduceAdd,h1,e1,e2,e3,e4,w1];try rw[h1]))))
  all_goals first|exact fin_ret hb rfl rfl List.take_length ⟨rfl,rfl⟩|exact fin_ret hb rfl rfl List.take_left ⟨rfl,rfl⟩|(trace_state;fail "fin")
 ·have hp:plainB x=(decide (x.name=⟨#[]⟩)&&decide (x.idx=⟨#[]⟩)&&x.ws.isEmpty&&x.items.isEmpty&&x.els.isEmpty&&(x.bef.isEmpty&&x.aft.isEmpty)):=by unfold plainB;simp[hk]
  have hu:useK x.kind=[true,false,false,false,false,false,false]:=by unfold useK;simp[hk]
  rw[hp,hu];simp -dsimp -implicitDefEqProofs only[aw,slots0,V.copy,V.cells,V.boxable,Nat.reduceLeDiff,cond_true,cond_false,eq_self,reduceIte,reduceCtorEq,Nat.reduceBEq,Nat.reduceLT,Nat.reduceEqDiff,Nat.reduceAdd,vit_eq];all_goals (repeat' (first|(refine iteT_intro (fun h1=>?_) (fun h1=>?_)<;>(simp -dsimp -implicitDefEqProofs only[aw,V.copy,Nat.reduceLeDiff,cond_true,cond_false,eq_self,reduceIte,Nat.reduceBEq,Nat.reduceLT,Nat.reduceEqDiff,Nat.reduceAdd,h1,e1,e2,e3,e4,w1];try rw[h1]))))
  all_goals first|exact fin_ret hb rfl rfl List.take_length ⟨rfl,rfl⟩|exact fin_ret hb rfl rfl List.take_left ⟨rfl,rfl⟩|(trace_state;fail "fin")
 ·have hp:plainB x=(blankB x.ex&&decide (x.idx=⟨#[]⟩)&&x.items.isEmpty&&x.els.isEmpty&&(x.bef.isEmpty&&x.aft.isEmpty)):=by unfold plainB;simp[hk]
  have hu:useK x.kind=[false,true,false,true,false,false,false]:=by unfold useK;simp[hk]
  rw[hp,hu];simp -dsimp -implicitDefEqProofs only[aw,slots0,V.copy,V.lend,V.lend1,V.cells,V.boxable,Nat.reduceLeDiff,eq_self,reduceIte,reduceCtorEq,Nat.reduceBEq,Nat.reduceLT,Nat.reduceEqDiff,Nat.reduceAdd,vit_eq];refine fun_ret (hbl _) ?_;simp -dsimp -implicitDefEqProofs only[aw,V.copy,cond_false,eq_self,reduceIte,Nat.reduceLT,Nat.reduceEqDiff];all_goals (repeat' (first|(refine iteT_intro (fun h1=>?_) (fun h1=>?_)<;>(simp -dsimp -implicitDefEqProofs only[aw,V.copy,Nat.reduceLeDiff,cond_true,cond_false,eq_self,reduceIte,Nat.reduceBEq,Nat.reduceLT,Nat.reduceEqDiff,Nat.reduceAdd,h1,e2,e3,e4,w1];try rw[h1]))))
  all_goals first|exact fin_ret hb rfl rfl List.take_length ⟨rfl,rfl⟩|exact fin_ret hb rfl rfl List.take_left ⟨rfl,rfl⟩|(trace_state;fail "fin")
 ·have hp:plainB x=(decide (x.name=⟨#[]⟩)&&decide (x.idx=⟨#[]⟩)&&x.ws.isEmpty&&(x.bef.isEmpty&&x.aft.isEmpty)):=by unfold plainB;simp[hk]
  have hu:useK x.kind=[true,false,false,false,true,true,false]:=by unfold useK;simp[hk]
  rw[hp,hu];simp -dsimp -implicitDefEqProofs only[aw,slots0,V.copy,V.cells,V.boxable,Nat.reduceLeDiff,cond_true,cond_false,eq_self,reduceIte,reduceCtorEq,Nat.reduceBEq,Nat.reduceLT,Nat.reduceEqDiff,Nat.reduceAdd,vit_eq];all_goals (repeat' (first|(refine iteT_intro (fun h1=>?_) (fun h1=>?_)<;>(simp -dsimp -implicitDefEqProofs only[aw,V.copy,Nat.reduceLeDiff,cond_true,cond_false,eq_self,reduceIte,Nat.reduceBEq,Nat.reduceLT,Nat.reduceEqDiff,Nat.reduceAdd,h1,e1,e4,w1];try rw[h1]))))
  all_goals first|exact fin_ret hb rfl rfl List.take_length ⟨rfl,rfl⟩|exact fin_ret hb rfl rfl List.take_left ⟨rfl,rfl⟩|(trace_state;fail "fin")
 ·have hp:plainB x=(blankB x.ex&&x.ws.isEmpty&&x.els.isEmpty&&(x.bef.isEmpty&&x.aft.isEmpty)):=by unfold plainB;simp[hk]
  have hu:useK x.kind=[false,true,true,false,true,false,false]:=by unfold useK;simp[hk]
  rw[hp,hu];simp -dsimp -implicitDefEqProofs only[aw,slots0,V.copy,V.lend,V.lend1,V.cells,V.boxable,Nat.reduceLeDiff,eq_self,reduceIte,reduceCtorEq,Nat.reduceBEq,Nat.reduceLT,Nat.reduceEqDiff,Nat.reduceAdd,vit_eq];refine fun_ret (hbl _) ?_;simp -dsimp -implicitDefEqProofs only[aw,V.copy,cond_false,eq_self,reduceIte,Nat.reduceLT,Nat.reduceEqDiff];all_goals (repeat' (first|(refine iteT_intro (fun h1=>?_) (fun h1=>?_)<;>(simp -dsimp -implicitDefEqProofs only[aw,V.copy,Nat.reduceLeDiff,cond_true,cond_false,eq_self,reduceIte,Nat.reduceBEq,Nat.reduceLT,Nat.reduceEqDiff,Nat.reduceAdd,h1,e1,e3,e4,w1];try rw[h1]))))
  all_goals first|exact fin_ret hb rfl rfl List.take_length ⟨rfl,rfl⟩|exact fin_ret hb rfl rfl List.take_left ⟨rfl,rfl⟩|(trace_state;fail "fin")
 ·have hp:plainB x=(blankB x.ex&&decide (x.name=⟨#[]⟩)&&decide (x.idx=⟨#[]⟩)&&x.ws.isEmpty&&x.items.isEmpty&&x.els.isEmpty):=by unfold plainB;simp[hk]
  have hu:useK x.kind=[false,false,false,false,false,false,true]:=by unfold useK;simp[hk]
  rw[hp,hu];simp -dsimp -implicitDefEqProofs only[aw,slots0,V.copy,V.lend,V.lend1,V.cells,V.boxable,Nat.reduceLeDiff,eq_self,reduceIte,reduceCtorEq,Nat.reduceBEq,Nat.reduceLT,Nat.reduceEqDiff,Nat.reduceAdd,vit_eq];refine fun_ret (hbl _) ?_;simp -dsimp -implicitDefEqProofs only[aw,V.copy,cond_false,eq_self,reduceIte,Nat.reduceLT,Nat.reduceEqDiff];all_goals (repeat' (first|(refine iteT_intro (fun h1=>?_) (fun h1=>?_)<;>(simp -dsimp -implicitDefEqProofs only[aw,V.copy,Nat.reduceLeDiff,cond_true,cond_false,eq_self,reduceIte,Nat.reduceBEq,Nat.reduceLT,Nat.reduceEqDiff,Nat.reduceAdd,h1,e1,e2,e3];try rw[h1]))))
  all_goals first|exact fin_ret hb rfl rfl List.take_length ⟨rfl,rfl⟩|exact fin_ret hb rfl rfl List.take_left ⟨rfl,rfl⟩|(trace_state;fail "fin")
def wE(ws:List Wt):Int:=if ws.length>16 then 2 else if ws=[]then 1 else if ws.all wtB=false then 1 else 0
theorem weights_fun(ws:List Wt)(hl:ws.length≤1200000)(σ:List (List V)):Fun G 86 [.d (.sl (ws.map dwt))] σ (RetV (.d (dint (wE ws))) σ):=by
 refine fun_code Tryz.func86 k86 rfl fun hb hw=>?_;unfold c86 wE;by_cases h1:ws.length>16
 ·have h1':((16:Int)<((ws.length:Nat):Int)):=by omega
  rw[if_pos h1];simp -dsimp -implicitDefEqProofs only[aw,slots0,V.copy,eq_self,reduceIte,reduceCtorEq,Nat.reduceBEq,Nat.reduceLT,Nat.reduceEqDiff,decide_eq_true h1'];first|exact fin_ret hb rfl rfl List.take_length ⟨rfl,rfl⟩|exact fin_ret hb rfl rfl List.take_left ⟨rfl,rfl⟩|(trace_state;fail "fin")
 ·have h1':¬((16:Int)<((ws.length:Nat):Int)):=by omega
  rw[if_neg h1];by_cases h2:ws=[]
  ·rw[if_pos h2];subst h2;simp -dsimp -implicitDefEqProofs only[aw,slots0,V.copy,eq_self,reduceIte,reduceCtorEq,Nat.reduceBEq,Nat.reduceLT,Nat.reduceEqDiff,decide_false,decide_true,Int.ofNat_zero,Int.reduceLT];first|exact fin_ret hb rfl rfl List.take_length ⟨rfl,rfl⟩|exact fin_ret hb rfl rfl List.take_left ⟨rfl,rfl⟩|(trace_state;fail "fin")
  ·rw[if_neg h2];have h2':¬(((ws.length:Nat):Int)=0):=by have:=List.length_pos_iff.2 h2;omega
   simp -dsimp -implicitDefEqProofs only[aw,slots0,V.copy,eq_self,reduceIte,reduceCtorEq,Nat.reduceBEq,Nat.reduceLT,Nat.reduceEqDiff,decide_eq_false h1',decide_eq_false h2'];refine awp_forK [13,14,15] (fun(j:Nat) ρ σ'=>ρ=[(13,.d (.sl (ws.map dwt))),(14,vint .i64 ws.length),(15,vint .i64 j)]∧σ'=σ∧ws.all wtB=(ws.drop j).all wtB) ws.length ⟨rfl,rfl,rfl⟩ ?_ _;rintro j ρ' σ' hj ⟨rfl,rfl,hr⟩;by_cases hlt:j<ws.length
   ·rw[List.drop_eq_getElem_cons hlt,List.all_cons]at hr;have hd:dwt ws[j]=[dint ws[j].lo,dint ws[j].hi,dint ws[j].w,dbl ws[j].each]:=rfl;have hwt:wtB ws[j]=(!decide (ws[j].lo<0) && !decide (ws[j].hi<ws[j].lo) && !decide (65535<ws[j].hi) && !decide (ws[j].w<0) && !decide (1000<ws[j].w)):=by unfold wtB;rw[Bool.eq_iff_iff];simp
    rw[hwt]at hr;simp -dsimp -implicitDefEqProofs only[aw,V.copy,V.cells,V.boxable,over,Nat.reduceLeDiff,eq_self,reduceIte,Nat.reduceBEq,Nat.reduceLT,Nat.reduceEqDiff,Nat.reduceAdd,Int.ofNat_lt,hlt,decide_true,List.getElem?_eq_getElem hlt,hd];all_goals (repeat' (first|(refine iteT_intro (fun h1=>?_) (fun h1=>?_)<;>(simp -dsimp -implicitDefEqProofs only[aw,V.copy,Nat.reduceLeDiff,cond_false,eq_self,reduceIte,Nat.reduceBEq,Nat.reduceLT,Nat.reduceEqDiff,Nat.reduceAdd,h1,wrap_nat hlt (show ws.length≤9223372036854775807 by omega)];try rw[h1]))))
    all_goals first|exact fin_ret hb rfl rfl List.take_left ⟨by rw[hr];simp only[*,Bool.not_true,Bool.and_false,Bool.false_and,Bool.true_and,if_true];rfl,rfl⟩|exact⟨hlt,Nxt.drop (Nat.le_refl _) hb rfl ⟨rfl,rfl,by rw[hr];simp only[*,Bool.not_false,Bool.true_and]⟩⟩|(trace_state;fail)
   ·simp -dsimp -implicitDefEqProofs only[aw,V.copy,eq_self,reduceIte,Nat.reduceBEq,Nat.reduceLT,Nat.reduceEqDiff,Int.ofNat_lt,hlt,decide_false];rw[List.drop_eq_nil_of_le (by omega)]at hr;rw[hr];first|exact fin_ret hb rfl rfl List.take_length ⟨rfl,rfl⟩|exact fin_ret hb rfl rfl List.take_left ⟨rfl,rfl⟩|(trace_state;fail "fin")
end Go.Proofs.YtcbahpllcfbkmaaGreatDoor
