import Derived.Test.YtcbahpllcfbkmaaGreatDoorK3
import Derived.Test.YtcbahpllcfbkmaaGreatDoorLib7
import Derived.Test.YtcbahpllcfbkmaaGreatDoorBr8
import Derived.Test.YtcbahpllcfbkmaaGreatDoorData
import Derived.Test.YtcbahpllcfbkmaaGreatDoorNames2
import Derived.Test.YtcbahpllcfbkmaaGreatDoorK
set_option linter.unusedVariables false
set_option linter.unusedSimpArgs false
set_option linter.unusedSectionVars false
namespace Go.Proofs.YtcbahpllcfbkmaaGreatDoor
open Go.RowKit
theorem gK{P:List It→Prop}(h:∀l,(∀a,a∈l→P a.items∧P a.els)→P l):∀l,P l:=by
 have H:∀n l,cm l≤n→P l:=by
  intro n
  induction n with
  | zero=>
   intro l hl;refine h l fun a ha=>?_;have:=qM ha;have:=pQ a;omega
  | succ n ih=>
   intro l hl;refine h l fun a ha=>?_;have h1:=qM ha;have h2:=nu a;exact⟨ih _ (by omega),ih _ (by omega)⟩
 exact fun l=>H _ l (Nat.le_refl _)
theorem y5(f:List It→Nat)(g:It→Nat)(h0:f []=0)(hc:∀a r,f (a::r)=g a+f r)(l:List It){j:Nat}(h:j<l.length):f (l.take (j+1))=f (l.take j)+g l[j]:=by
 induction l generalizing j with
 | nil=>simp at h
 | cons a r ih=>
  cases j with
  | zero=>simp only[List.take_succ_cons,List.take_zero,hc,h0,List.getElem_cons_zero];omega
  | succ j=>simp only[List.take_succ_cons,hc,List.getElem_cons_succ];rw[ih (by simpa using h)];omega
theorem ot(l:List It){j:Nat}(h:j<l.length):cm (l.take (j+1))=cm (l.take j)+isz l[j]:=y5 cm isz rfl (fun _ _=>rfl) l h
theorem ku(l:List It)(j:Nat):cm (l.take j)≤cm l:=by
 induction l generalizing j with
 | nil=>simp
 | cons a r ih=>cases j with
  | zero=>simp[cm]
  | succ j=>rw[List.take_succ_cons,cm,cm];have:=ih j;omega
theorem vA:∀l:List It,cm l≤1200000→∀σ,Fun G 56 [.d (fr l)] σ (aZ (.d (az (cm l:Nat))) σ):=by
 refine gK fun l ih hs σ=>?_;refine ay Tryz.func56 k56 rfl fun hb hw=>?_;unfold c56;have hln:=qE l;simp -dsimp -implicitDefEqProofs only[aw,ah,V.copy,V.lend,V.lend1,V.cells,V.boxable,over,ak,ae,ac,ai,V.plain,Nat.reduceLeDiff,cond_true,cond_false,implies_true,eq_self,ne_eq,reduceIte,reduceCtorEq,Nat.reduceBEq,Nat.reduceLT,Nat.reduceEqDiff,Nat.reduceAdd,Nat.reduceSub,Nat.reduceMul,List.length_map];refine aS [3,6,7,8] (fun(j:Nat) ρ σ'=>ρ=[(3,aI .i64 (cm (l.take j):Nat)),(6,.d (fr l)),(7,aI .i64 l.length),(8,aI .i64 j)]∧σ'=σ) l.length ⟨rfl,rfl⟩ ?_ _;rintro j ρ' σ' hj ⟨rfl,rfl⟩;by_cases hlt:j<l.length
 ·have ht:=ot l hlt;have hle:=ku l (j+1);have he:=nu l[j];have w1:IntKind.i64.wrap (1+((cm l[j].items:Nat):Int))=((1+cm l[j].items:Nat):Int):=by rw[bD (by omega) (by omega)];omega
  have w2:IntKind.i64.wrap (((1+cm l[j].items:Nat):Int)+((cm l[j].els:Nat):Int))=((isz l[j]:Nat):Int):=by rw[bD (by omega) (by omega)];omega
  have w3:IntKind.i64.wrap (((cm (l.take j):Nat):Int)+((isz l[j]:Nat):Int))=((cm (l.take (j+1)):Nat):Int):=by rw[bD (by omega) (by omega)];omega
  obtain⟨i1,i2⟩:=ih _ (List.getElem_mem hlt);simp -dsimp -implicitDefEqProofs only[aw,ah,V.copy,V.lend,V.lend1,V.cells,V.boxable,over,ak,ae,ac,ai,V.plain,Nat.reduceLeDiff,cond_true,cond_false,implies_true,eq_self,ne_eq,reduceIte,reduceCtorEq,Nat.reduceBEq,Nat.reduceLT,Nat.reduceEqDiff,Nat.reduceAdd,Nat.reduceSub,Nat.reduceMul,Int.ofNat_lt,hlt,decide_true,List.getElem?_eq_getElem hlt,fk l[j]];refine aK (i1 (by omega) _) ?_;simp -dsimp -implicitDefEqProofs only[aw,ah,V.copy,V.lend,V.lend1,V.cells,V.boxable,over,ak,ae,ac,ai,V.plain,Nat.reduceLeDiff,cond_true,cond_false,implies_true,eq_self,ne_eq,reduceIte,reduceCtorEq,Nat.reduceBEq,Nat.reduceLT,Nat.reduceEqDiff,Nat.reduceAdd,Nat.reduceSub,Nat.reduceMul];refine aK (i2 (by omega) _) ?_
  simp -dsimp -implicitDefEqProofs only[aw,ah,V.copy,V.lend,V.lend1,V.cells,V.boxable,over,ak,ae,ac,ai,V.plain,Nat.reduceLeDiff,cond_true,cond_false,implies_true,eq_self,ne_eq,reduceIte,reduceCtorEq,Nat.reduceBEq,Nat.reduceLT,Nat.reduceEqDiff,Nat.reduceAdd,Nat.reduceSub,Nat.reduceMul,w1,w2,w3,aJ hlt (show l.length≤9223372036854775807 by omega)];exact⟨hlt,Nxt.drop (Nat.le_refl _) hb rfl ⟨rfl,rfl⟩⟩
 ·simp -dsimp -implicitDefEqProofs only[aw,ah,V.copy,V.lend,V.lend1,V.cells,V.boxable,over,ak,ae,ac,ai,V.plain,Nat.reduceLeDiff,cond_true,cond_false,implies_true,eq_self,ne_eq,reduceIte,reduceCtorEq,Nat.reduceBEq,Nat.reduceLT,Nat.reduceEqDiff,Nat.reduceAdd,Nat.reduceSub,Nat.reduceMul,Int.ofNat_lt,hlt,decide_false];rw[List.take_of_length_le (by omega)];first|exact aj hb rfl rfl List.take_length ⟨rfl,rfl⟩|exact aj hb rfl rfl List.take_left ⟨rfl,rfl⟩|(trace_state;fail "fin")
theorem s5:∀l:List It,cm l≤1200000→∀σ,Fun G 40 [.d (fr l)] σ (aZ (.d (az (cm l:Nat))) σ):=by
 refine gK fun l ih hs σ=>?_;refine ay Tryz.func40 k40 rfl fun hb hw=>?_;unfold c40;have hln:=qE l;simp -dsimp -implicitDefEqProofs only[aw,ah,V.copy,V.lend,V.lend1,V.cells,V.boxable,over,ak,ae,ac,ai,V.plain,Nat.reduceLeDiff,cond_true,cond_false,implies_true,eq_self,ne_eq,reduceIte,reduceCtorEq,Nat.reduceBEq,Nat.reduceLT,Nat.reduceEqDiff,Nat.reduceAdd,Nat.reduceSub,Nat.reduceMul,List.length_map];refine aS [0,3,4] (fun(j:Nat) ρ σ'=>∃m:Nat,ρ=[(0,.d (fr l)),(3,aI .i64 (m:Nat)),(4,aI .i64 j)]∧m+j=l.length+cm (l.take j)∧σ'=σ) l.length ⟨l.length,rfl,by simp[cm],rfl⟩ ?_ _;rintro j ρ' σ' hj ⟨m,rfl,hm,rfl⟩;by_cases hlt:j<l.length
 ·have ht:=ot l hlt;have hle:=ku l (j+1);have he:=nu l[j];have w1:IntKind.i64.wrap (((m:Nat):Int)+((cm l[j].items:Nat):Int))=((m+cm l[j].items:Nat):Int):=by rw[bD (by omega) (by omega)];omega
  have w2:IntKind.i64.wrap (((m+cm l[j].items:Nat):Int)+((cm l[j].els:Nat):Int))=((m+cm l[j].items+cm l[j].els:Nat):Int):=by rw[bD (by omega) (by omega)];omega
  obtain⟨i1,i2⟩:=ih _ (List.getElem_mem hlt);simp -dsimp -implicitDefEqProofs only[aw,ah,V.copy,V.lend,V.lend1,V.cells,V.boxable,over,ak,ae,ac,ai,V.plain,Nat.reduceLeDiff,cond_true,cond_false,implies_true,eq_self,ne_eq,reduceIte,reduceCtorEq,Nat.reduceBEq,Nat.reduceLT,Nat.reduceEqDiff,Nat.reduceAdd,Nat.reduceSub,Nat.reduceMul,Int.ofNat_lt,hlt,decide_true,List.getElem?_eq_getElem hlt,fk l[j],List.length_map];refine aK (i1 (by omega) _) ?_;simp -dsimp -implicitDefEqProofs only[aw,ah,V.copy,V.lend,V.lend1,V.cells,V.boxable,over,ak,ae,ac,ai,V.plain,Nat.reduceLeDiff,cond_true,cond_false,implies_true,eq_self,ne_eq,reduceIte,reduceCtorEq,Nat.reduceBEq,Nat.reduceLT,Nat.reduceEqDiff,Nat.reduceAdd,Nat.reduceSub,Nat.reduceMul,Int.ofNat_lt,hlt,decide_true,List.getElem?_eq_getElem hlt,fk l[j],List.length_map];refine aK (i2 (by omega) _) ?_
  simp -dsimp -implicitDefEqProofs only[aw,ah,V.copy,V.lend,V.lend1,V.cells,V.boxable,over,ak,ae,ac,ai,V.plain,Nat.reduceLeDiff,cond_true,cond_false,implies_true,eq_self,ne_eq,reduceIte,reduceCtorEq,Nat.reduceBEq,Nat.reduceLT,Nat.reduceEqDiff,Nat.reduceAdd,Nat.reduceSub,Nat.reduceMul,w1,w2,aJ hlt (show l.length≤9223372036854775807 by omega)];exact⟨hlt,Nxt.same (Nat.le_refl _) hb rfl ⟨_,rfl,by omega,rfl⟩⟩
 ·simp -dsimp -implicitDefEqProofs only[aw,ah,V.copy,V.lend,V.lend1,V.cells,V.boxable,over,ak,ae,ac,ai,V.plain,Nat.reduceLeDiff,cond_true,cond_false,implies_true,eq_self,ne_eq,reduceIte,reduceCtorEq,Nat.reduceBEq,Nat.reduceLT,Nat.reduceEqDiff,Nat.reduceAdd,Nat.reduceSub,Nat.reduceMul,Int.ofNat_lt,hlt,decide_false,List.length_map];have:m=cm l:=by rw[List.take_of_length_le (by omega)]at hm;omega
  subst this;first|exact aj hb rfl rfl List.take_length ⟨rfl,rfl⟩|exact aj hb rfl rfl List.take_left ⟨rfl,rfl⟩|(trace_state;fail "fin")
theorem dD(s:ByteArray)(σ:List (List V)):Fun G 65 [.d (an s)] σ (aZ (.d (.lit (.bool (aD s)))) σ):=
 mW Tryz.func65 (by kernel_rfl) (by kernel_rfl) trivial fun M bm w v hG hM hr=>by
  cases hr with
  | d hr=>cases hr with
   | lit _ hf=>exact fE s w (by simpa[ce,maxLen]using hf) (uO hG hM)
theorem ow(s:ByteArray)(σ:List (List V)):Fun G 87 [.d (an s)] σ (aZ (aA (aL s)) σ):=by
 refine ay Tryz.func87 k87 rfl fun hb hw=>?_;unfold c87
 have hv:(bU (.mk 2 0 s [])=0)=(aL s=true):=by
  unfold bU
  have h1:b8 (.mk 2 0 s [])=if aL s=true then 0 else 7:=by
   rw[b8,jB];unfold aH;cases hv:aL s<;>simp[hv,cE,bM,cf]
  rw[h1];cases hv:aL s<;>simp[bP,cB,ba,bF]
 simp -dsimp -implicitDefEqProofs only[aw,ah,V.copy,V.lend,V.lend1,V.cells,V.boxable,over,ak,ae,ac,ai,V.plain,Nat.reduceLeDiff,cond_true,cond_false,implies_true,eq_self,ne_eq,reduceIte,reduceCtorEq,Nat.reduceBEq,Nat.reduceLT,Nat.reduceEqDiff,Nat.reduceAdd,Nat.reduceSub,Nat.reduceMul];refine aq (v:=.d (az (bU (.mk 2 0 s [])))) (by have:=lA (.mk 2 0 s []) (by simp[ba,bF]) (by simp[bP,cB]) σ;simpa only[be,Ex.op,Ex.num,Ex.name,Ex.args,List.map_nil]using this) ?_;have hd:decide (bU (.mk 2 0 s [])=0)=aL s:=by rw[Bool.eq_iff_iff,decide_eq_true_eq,hv]
 simp -dsimp -implicitDefEqProofs only[aw,ah,V.copy,V.lend,V.lend1,V.cells,V.boxable,over,ak,ae,ac,ai,V.plain,Nat.reduceLeDiff,cond_true,cond_false,implies_true,eq_self,ne_eq,reduceIte,reduceCtorEq,Nat.reduceBEq,Nat.reduceLT,Nat.reduceEqDiff,Nat.reduceAdd,Nat.reduceSub,Nat.reduceMul,hd];first|exact aj hb rfl rfl List.take_length ⟨rfl,rfl⟩|exact aj hb rfl rfl List.take_left ⟨rfl,rfl⟩|(trace_state;fail "fin")
theorem uV(e:Ex)(hl:e.args.length≤1200000)(σ:List (List V)):Fun G 114 [vex e] σ (aZ (aA (dv e)) σ):=by
 refine ay Tryz.func114 Im (by simp only[be];rfl) fun hb hw=>?_;unfold Gm;have hlen:decide (((e.args.length:Nat):Int)=0)=e.args.isEmpty:=by cases e.args<;>simp;omega
 unfold dv;simp -dsimp -implicitDefEqProofs only[aw,ah,V.copy,V.lend,V.lend1,V.cells,V.boxable,over,ak,ae,ac,ai,V.plain,Nat.reduceLeDiff,cond_true,cond_false,implies_true,eq_self,ne_eq,reduceIte,reduceCtorEq,Nat.reduceBEq,Nat.reduceLT,Nat.reduceEqDiff,Nat.reduceAdd,Nat.reduceSub,Nat.reduceMul,be,List.length_map,hlen];all_goals (repeat' (first|(refine bZ (fun h1=>?_) (fun h1=>?_)<;>(simp -dsimp -implicitDefEqProofs only[aw,ah,V.copy,V.lend,V.lend1,V.cells,V.boxable,over,ak,ae,ac,ai,V.plain,Nat.reduceLeDiff,cond_true,cond_false,implies_true,eq_self,ne_eq,reduceIte,reduceCtorEq,Nat.reduceBEq,Nat.reduceLT,Nat.reduceEqDiff,Nat.reduceAdd,Nat.reduceSub,Nat.reduceMul,h1,List.length_map,hlen];try rw[h1]))))
 all_goals first|exact aj hb rfl rfl List.take_length ⟨rfl,rfl⟩|exact aj hb rfl rfl List.take_left ⟨rfl,rfl⟩|(trace_state;fail "fin")
theorem gP{α:Type}(l:List α):decide (((l.length:Nat):Int)=0)=l.isEmpty:=by cases l<;>simp;omega
theorem tV{α β:Type}(l:List α)(m:List β):decide ((((l.length+m.length:Nat)):Int)=0)=(l.isEmpty&&m.isEmpty):=by cases l<;>cases m<;>simp<;>omega
abbrev GW(u:List Bool):V:=.agg (u.map aA)
def jA(k:Int):List Bool:=if k=1∨k=2 then[true,false,false,false,false,false,false]else if k=3 then[false,true,false,true,false,false,false]else if k=4 then[true,false,false,false,true,true,false]
 else if k=5 then[false,true,true,false,true,false,false]else[false,false,false,false,false,false,true]
set_option maxRecDepth 20000 in
set_option maxHeartbeats 4000000 in
theorem vt(x:It)(hbig:fY x≤1200000)(hk:1≤x.kind∧x.kind≤6)(σ:List (List V)):Fun G 85 [vit x,GW (jA x.kind)] σ (aZ (aA (bv x)) σ):=by
 have hb0:=cA x
 have h3:x.ex.args.length≤1200000:=by
  have h2:bF x.ex.args≤ba x.ex:=by cases x.ex;simp only[ba,Ex.args];omega
  have:=Ee x.ex.args;omega
 have w1:IntKind.i64.wrap (((x.bef.length:Nat):Int)+((x.aft.length:Nat):Int))=((x.bef.length+x.aft.length:Nat):Int):=by rw[bD (by omega) (by omega)];omega
 have e1:=gP x.ws;have e2:=gP x.items;have e3:=gP x.els;have e4:=tV x.bef x.aft;have hk6:x.kind=1∨x.kind=2∨x.kind=3∨x.kind=4∨x.kind=5∨x.kind=6:=by omega
 refine ay Tryz.func85 k85 (by simp only[aV];rfl) fun hb hw=>?_;unfold c85;have hbl:=fun σ=>uV x.ex h3 σ;simp only[be]at hbl;rcases hk6 with hk|hk|hk|hk|hk|hk
 ·have hp:bv x=(decide (x.name=⟨#[]⟩)&&decide (x.idx=⟨#[]⟩)&&x.ws.isEmpty&&x.items.isEmpty&&x.els.isEmpty&&(x.bef.isEmpty&&x.aft.isEmpty)):=by unfold bv;simp[hk]
  have hu:jA x.kind=[true,false,false,false,false,false,false]:=by unfold jA;simp[hk]
  rw[hp,hu];simp -dsimp -implicitDefEqProofs only[aw,ah,V.copy,V.lend,V.lend1,V.cells,V.boxable,over,ak,ae,ac,ai,V.plain,Nat.reduceLeDiff,cond_true,cond_false,implies_true,eq_self,ne_eq,reduceIte,reduceCtorEq,Nat.reduceBEq,Nat.reduceLT,Nat.reduceEqDiff,Nat.reduceAdd,Nat.reduceSub,Nat.reduceMul,aV,List.length_map,e1,e2,e3,e4,w1];all_goals (repeat' (first|(refine bZ (fun h1=>?_) (fun h1=>?_)<;>(simp -dsimp -implicitDefEqProofs only[aw,ah,V.copy,V.lend,V.lend1,V.cells,V.boxable,over,ak,ae,ac,ai,V.plain,Nat.reduceLeDiff,cond_true,cond_false,implies_true,eq_self,ne_eq,reduceIte,reduceCtorEq,Nat.reduceBEq,Nat.reduceLT,Nat.reduceEqDiff,Nat.reduceAdd,Nat.reduceSub,Nat.reduceMul,h1,List.length_map,e1,e2,e3,e4,w1];try rw[h1]))))
  all_goals first|exact aj hb rfl rfl List.take_length ⟨rfl,rfl⟩|exact aj hb rfl rfl List.take_left ⟨rfl,rfl⟩|(trace_state;fail "fin")
 ·have hp:bv x=(decide (x.name=⟨#[]⟩)&&decide (x.idx=⟨#[]⟩)&&x.ws.isEmpty&&x.items.isEmpty&&x.els.isEmpty&&(x.bef.isEmpty&&x.aft.isEmpty)):=by unfold bv;simp[hk]
  have hu:jA x.kind=[true,false,false,false,false,false,false]:=by unfold jA;simp[hk]
  rw[hp,hu];simp -dsimp -implicitDefEqProofs only[aw,ah,V.copy,V.lend,V.lend1,V.cells,V.boxable,over,ak,ae,ac,ai,V.plain,Nat.reduceLeDiff,cond_true,cond_false,implies_true,eq_self,ne_eq,reduceIte,reduceCtorEq,Nat.reduceBEq,Nat.reduceLT,Nat.reduceEqDiff,Nat.reduceAdd,Nat.reduceSub,Nat.reduceMul,aV,List.length_map,e1,e2,e3,e4,w1];all_goals (repeat' (first|(refine bZ (fun h1=>?_) (fun h1=>?_)<;>(simp -dsimp -implicitDefEqProofs only[aw,ah,V.copy,V.lend,V.lend1,V.cells,V.boxable,over,ak,ae,ac,ai,V.plain,Nat.reduceLeDiff,cond_true,cond_false,implies_true,eq_self,ne_eq,reduceIte,reduceCtorEq,Nat.reduceBEq,Nat.reduceLT,Nat.reduceEqDiff,Nat.reduceAdd,Nat.reduceSub,Nat.reduceMul,h1,List.length_map,e1,e2,e3,e4,w1];try rw[h1]))))
  all_goals first|exact aj hb rfl rfl List.take_length ⟨rfl,rfl⟩|exact aj hb rfl rfl List.take_left ⟨rfl,rfl⟩|(trace_state;fail "fin")
 ·have hp:bv x=(dv x.ex&&decide (x.idx=⟨#[]⟩)&&x.items.isEmpty&&x.els.isEmpty&&(x.bef.isEmpty&&x.aft.isEmpty)):=by unfold bv;simp[hk]
  have hu:jA x.kind=[false,true,false,true,false,false,false]:=by unfold jA;simp[hk]
  rw[hp,hu];simp -dsimp -implicitDefEqProofs only[aw,ah,V.copy,V.lend,V.lend1,V.cells,V.boxable,over,ak,ae,ac,ai,V.plain,Nat.reduceLeDiff,cond_true,cond_false,implies_true,eq_self,ne_eq,reduceIte,reduceCtorEq,Nat.reduceBEq,Nat.reduceLT,Nat.reduceEqDiff,Nat.reduceAdd,Nat.reduceSub,Nat.reduceMul,aV,List.length_map,e1,e2,e3,e4,w1];refine aq (hbl _) ?_;simp -dsimp -implicitDefEqProofs only[aw,ah,V.copy,V.lend,V.lend1,V.cells,V.boxable,over,ak,ae,ac,ai,V.plain,Nat.reduceLeDiff,cond_true,cond_false,implies_true,eq_self,ne_eq,reduceIte,reduceCtorEq,Nat.reduceBEq,Nat.reduceLT,Nat.reduceEqDiff,Nat.reduceAdd,Nat.reduceSub,Nat.reduceMul,aV,List.length_map,e1,e2,e3,e4,w1]
  all_goals (repeat' (first|(refine bZ (fun h1=>?_) (fun h1=>?_)<;>(simp -dsimp -implicitDefEqProofs only[aw,ah,V.copy,V.lend,V.lend1,V.cells,V.boxable,over,ak,ae,ac,ai,V.plain,Nat.reduceLeDiff,cond_true,cond_false,implies_true,eq_self,ne_eq,reduceIte,reduceCtorEq,Nat.reduceBEq,Nat.reduceLT,Nat.reduceEqDiff,Nat.reduceAdd,Nat.reduceSub,Nat.reduceMul,h1,List.length_map,e1,e2,e3,e4,w1];try rw[h1]))))
  all_goals first|exact aj hb rfl rfl List.take_length ⟨rfl,rfl⟩|exact aj hb rfl rfl List.take_left ⟨rfl,rfl⟩|(trace_state;fail "fin")
 ·have hp:bv x=(decide (x.name=⟨#[]⟩)&&decide (x.idx=⟨#[]⟩)&&x.ws.isEmpty&&(x.bef.isEmpty&&x.aft.isEmpty)):=by unfold bv;simp[hk]
  have hu:jA x.kind=[true,false,false,false,true,true,false]:=by unfold jA;simp[hk]
  rw[hp,hu];simp -dsimp -implicitDefEqProofs only[aw,ah,V.copy,V.lend,V.lend1,V.cells,V.boxable,over,ak,ae,ac,ai,V.plain,Nat.reduceLeDiff,cond_true,cond_false,implies_true,eq_self,ne_eq,reduceIte,reduceCtorEq,Nat.reduceBEq,Nat.reduceLT,Nat.reduceEqDiff,Nat.reduceAdd,Nat.reduceSub,Nat.reduceMul,aV,List.length_map,e1,e2,e3,e4,w1];all_goals (repeat' (first|(refine bZ (fun h1=>?_) (fun h1=>?_)<;>(simp -dsimp -implicitDefEqProofs only[aw,ah,V.copy,V.lend,V.lend1,V.cells,V.boxable,over,ak,ae,ac,ai,V.plain,Nat.reduceLeDiff,cond_true,cond_false,implies_true,eq_self,ne_eq,reduceIte,reduceCtorEq,Nat.reduceBEq,Nat.reduceLT,Nat.reduceEqDiff,Nat.reduceAdd,Nat.reduceSub,Nat.reduceMul,h1,List.length_map,e1,e2,e3,e4,w1];try rw[h1]))))
  all_goals first|exact aj hb rfl rfl List.take_length ⟨rfl,rfl⟩|exact aj hb rfl rfl List.take_left ⟨rfl,rfl⟩|(trace_state;fail "fin")
 ·have hp:bv x=(dv x.ex&&x.ws.isEmpty&&x.els.isEmpty&&(x.bef.isEmpty&&x.aft.isEmpty)):=by unfold bv;simp[hk]
  have hu:jA x.kind=[false,true,true,false,true,false,false]:=by unfold jA;simp[hk]
  rw[hp,hu];simp -dsimp -implicitDefEqProofs only[aw,ah,V.copy,V.lend,V.lend1,V.cells,V.boxable,over,ak,ae,ac,ai,V.plain,Nat.reduceLeDiff,cond_true,cond_false,implies_true,eq_self,ne_eq,reduceIte,reduceCtorEq,Nat.reduceBEq,Nat.reduceLT,Nat.reduceEqDiff,Nat.reduceAdd,Nat.reduceSub,Nat.reduceMul,aV,List.length_map,e1,e2,e3,e4,w1];refine aq (hbl _) ?_;simp -dsimp -implicitDefEqProofs only[aw,ah,V.copy,V.lend,V.lend1,V.cells,V.boxable,over,ak,ae,ac,ai,V.plain,Nat.reduceLeDiff,cond_true,cond_false,implies_true,eq_self,ne_eq,reduceIte,reduceCtorEq,Nat.reduceBEq,Nat.reduceLT,Nat.reduceEqDiff,Nat.reduceAdd,Nat.reduceSub,Nat.reduceMul,aV,List.length_map,e1,e2,e3,e4,w1]
  all_goals (repeat' (first|(refine bZ (fun h1=>?_) (fun h1=>?_)<;>(simp -dsimp -implicitDefEqProofs only[aw,ah,V.copy,V.lend,V.lend1,V.cells,V.boxable,over,ak,ae,ac,ai,V.plain,Nat.reduceLeDiff,cond_true,cond_false,implies_true,eq_self,ne_eq,reduceIte,reduceCtorEq,Nat.reduceBEq,Nat.reduceLT,Nat.reduceEqDiff,Nat.reduceAdd,Nat.reduceSub,Nat.reduceMul,h1,List.length_map,e1,e2,e3,e4,w1];try rw[h1]))))
  all_goals first|exact aj hb rfl rfl List.take_length ⟨rfl,rfl⟩|exact aj hb rfl rfl List.take_left ⟨rfl,rfl⟩|(trace_state;fail "fin")
 ·have hp:bv x=(dv x.ex&&decide (x.name=⟨#[]⟩)&&decide (x.idx=⟨#[]⟩)&&x.ws.isEmpty&&x.items.isEmpty&&x.els.isEmpty):=by unfold bv;simp[hk]
  have hu:jA x.kind=[false,false,false,false,false,false,true]:=by unfold jA;simp[hk]
  rw[hp,hu];simp -dsimp -implicitDefEqProofs only[aw,ah,V.copy,V.lend,V.lend1,V.cells,V.boxable,over,ak,ae,ac,ai,V.plain,Nat.reduceLeDiff,cond_true,cond_false,implies_true,eq_self,ne_eq,reduceIte,reduceCtorEq,Nat.reduceBEq,Nat.reduceLT,Nat.reduceEqDiff,Nat.reduceAdd,Nat.reduceSub,Nat.reduceMul,aV,List.length_map,e1,e2,e3,e4,w1];refine aq (hbl _) ?_;simp -dsimp -implicitDefEqProofs only[aw,ah,V.copy,V.lend,V.lend1,V.cells,V.boxable,over,ak,ae,ac,ai,V.plain,Nat.reduceLeDiff,cond_true,cond_false,implies_true,eq_self,ne_eq,reduceIte,reduceCtorEq,Nat.reduceBEq,Nat.reduceLT,Nat.reduceEqDiff,Nat.reduceAdd,Nat.reduceSub,Nat.reduceMul,aV,List.length_map,e1,e2,e3,e4,w1]
  all_goals (repeat' (first|(refine bZ (fun h1=>?_) (fun h1=>?_)<;>(simp -dsimp -implicitDefEqProofs only[aw,ah,V.copy,V.lend,V.lend1,V.cells,V.boxable,over,ak,ae,ac,ai,V.plain,Nat.reduceLeDiff,cond_true,cond_false,implies_true,eq_self,ne_eq,reduceIte,reduceCtorEq,Nat.reduceBEq,Nat.reduceLT,Nat.reduceEqDiff,Nat.reduceAdd,Nat.reduceSub,Nat.reduceMul,h1,List.length_map,e1,e2,e3,e4,w1];try rw[h1]))))
  all_goals first|exact aj hb rfl rfl List.take_length ⟨rfl,rfl⟩|exact aj hb rfl rfl List.take_left ⟨rfl,rfl⟩|(trace_state;fail "fin")
def wE(ws:List Wt):Int:=if ws.length>16 then 2 else if ws=[]then 1 else if ws.all wtB=false then 1 else 0
theorem qP(ws:List Wt)(hl:ws.length≤1200000)(σ:List (List V)):Fun G 86 [.d (.sl (ws.map dwt))] σ (aZ (.d (az (wE ws))) σ):=by
 refine ay Tryz.func86 k86 rfl fun hb hw=>?_;unfold c86 wE;by_cases h1:ws.length>16
 ·have h1':((16:Int)<((ws.length:Nat):Int)):=by omega
  rw[if_pos h1];simp -dsimp -implicitDefEqProofs only[aw,ah,V.copy,V.lend,V.lend1,V.cells,V.boxable,over,ak,ae,ac,ai,V.plain,Nat.reduceLeDiff,cond_true,cond_false,implies_true,eq_self,ne_eq,reduceIte,reduceCtorEq,Nat.reduceBEq,Nat.reduceLT,Nat.reduceEqDiff,Nat.reduceAdd,Nat.reduceSub,Nat.reduceMul,List.length_map,decide_eq_true h1'];first|exact aj hb rfl rfl List.take_length ⟨rfl,rfl⟩|exact aj hb rfl rfl List.take_left ⟨rfl,rfl⟩|(trace_state;fail "fin")
 ·have h1':¬((16:Int)<((ws.length:Nat):Int)):=by omega
  rw[if_neg h1];by_cases h2:ws=[]
  ·rw[if_pos h2];subst h2;simp -dsimp -implicitDefEqProofs only[aw,ah,V.copy,V.lend,V.lend1,V.cells,V.boxable,over,ak,ae,ac,ai,V.plain,Nat.reduceLeDiff,cond_true,cond_false,implies_true,eq_self,ne_eq,reduceIte,reduceCtorEq,Nat.reduceBEq,Nat.reduceLT,Nat.reduceEqDiff,Nat.reduceAdd,Nat.reduceSub,Nat.reduceMul,List.length_map,decide_false,Int.reduceEq,decide_true,Int.ofNat_zero,Int.reduceLT];first|exact aj hb rfl rfl List.take_length ⟨rfl,rfl⟩|exact aj hb rfl rfl List.take_left ⟨rfl,rfl⟩|(trace_state;fail "fin")
  ·rw[if_neg h2];have h2':¬(((ws.length:Nat):Int)=0):=by have:=List.length_pos_iff.2 h2;omega
   simp -dsimp -implicitDefEqProofs only[aw,ah,V.copy,V.lend,V.lend1,V.cells,V.boxable,over,ak,ae,ac,ai,V.plain,Nat.reduceLeDiff,cond_true,cond_false,implies_true,eq_self,ne_eq,reduceIte,reduceCtorEq,Nat.reduceBEq,Nat.reduceLT,Nat.reduceEqDiff,Nat.reduceAdd,Nat.reduceSub,Nat.reduceMul,List.length_map,decide_eq_false h1',decide_eq_false h2'];refine aS [13,14,15] (fun(j:Nat) ρ σ'=>ρ=[(13,.d (.sl (ws.map dwt))),(14,aI .i64 ws.length),(15,aI .i64 j)]∧σ'=σ∧ws.all wtB=(ws.drop j).all wtB) ws.length ⟨rfl,rfl,rfl⟩ ?_ _;rintro j ρ' σ' hj ⟨rfl,rfl,hr⟩;by_cases hlt:j<ws.length
   ·rw[List.drop_eq_getElem_cons hlt,List.all_cons]at hr;have hd:dwt ws[j]=[az ws[j].lo,az ws[j].hi,az ws[j].w,dbl ws[j].each]:=rfl;have hwt:wtB ws[j]=(!decide (ws[j].lo<0) && !decide (ws[j].hi<ws[j].lo) && !decide (65535<ws[j].hi) && !decide (ws[j].w<0) && !decide (1000<ws[j].w)):=by unfold wtB;rw[Bool.eq_iff_iff];simp
    rw[hwt]at hr;simp -dsimp -implicitDefEqProofs only[aw,ah,V.copy,V.lend,V.lend1,V.cells,V.boxable,over,ak,ae,ac,ai,V.plain,Nat.reduceLeDiff,cond_true,cond_false,implies_true,eq_self,ne_eq,reduceIte,reduceCtorEq,Nat.reduceBEq,Nat.reduceLT,Nat.reduceEqDiff,Nat.reduceAdd,Nat.reduceSub,Nat.reduceMul,Int.ofNat_lt,hlt,decide_true,List.getElem?_eq_getElem hlt,hd,aJ hlt (show ws.length≤9223372036854775807 by omega)];all_goals (repeat' (first|(refine bZ (fun h1=>?_) (fun h1=>?_)<;>(simp -dsimp -implicitDefEqProofs only[aw,ah,V.copy,V.lend,V.lend1,V.cells,V.boxable,over,ak,ae,ac,ai,V.plain,Nat.reduceLeDiff,cond_true,cond_false,implies_true,eq_self,ne_eq,reduceIte,reduceCtorEq,Nat.reduceBEq,Nat.reduceLT,Nat.reduceEqDiff,Nat.reduceAdd,Nat.reduceSub,Nat.reduceMul,h1,aJ hlt (show ws.length≤9223372036854775807 by omega)];try rw[h1]))))
    all_goals first|exact aj hb rfl rfl List.take_left ⟨by rw[hr];simp only[*,Bool.not_true,Bool.not_false,Bool.and_false,Bool.false_and,Bool.true_and,if_true];rfl,rfl⟩|exact⟨hlt,Nxt.drop (Nat.le_refl _) hb rfl ⟨rfl,rfl,by rw[hr];simp only[*,Bool.not_true,Bool.not_false,Bool.and_false,Bool.false_and,Bool.true_and]⟩⟩|(trace_state;fail)
   ·simp -dsimp -implicitDefEqProofs only[aw,ah,V.copy,V.lend,V.lend1,V.cells,V.boxable,over,ak,ae,ac,ai,V.plain,Nat.reduceLeDiff,cond_true,cond_false,implies_true,eq_self,ne_eq,reduceIte,reduceCtorEq,Nat.reduceBEq,Nat.reduceLT,Nat.reduceEqDiff,Nat.reduceAdd,Nat.reduceSub,Nat.reduceMul,Int.ofNat_lt,hlt,decide_false];rw[List.drop_eq_nil_of_le (by omega)]at hr;rw[hr];first|exact aj hb rfl rfl List.take_length ⟨rfl,rfl⟩|exact aj hb rfl rfl List.take_left ⟨rfl,rfl⟩|(trace_state;fail "fin")
end Go.Proofs.YtcbahpllcfbkmaaGreatDoor
