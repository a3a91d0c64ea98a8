import Derived.Test.YtcbahpllcfbkmaaGreatDoorK3
import Derived.Test.YtcbahpllcfbkmaaGreatDoorLib7
import Derived.Test.YtcbahpllcfbkmaaGreatDoorBr8
import Derived.Test.YtcbahpllcfbkmaaGreatDoorData
import Derived.Test.YtcbahpllcfbkmaaGreatDoorNames2
import Derived.Test.YtcbahpllcfbkmaaGreatDoorK
set_option linter.unusedVariables false
set_option linter.unusedSimpArgs false
set_option linter.unusedSectionVars false
namespace Go.Proofs.YtcbahpllcfbkmaaGreatDoor
open Go.RowKit
theorem fZ{P:List It→Prop}(h:∀l,(∀a,a∈l→P a.items∧P a.els)→P l):∀l,P l:=by
 have H:∀n l,bN l≤n→P l:=by
  intro n
  induction n with
  | zero=>
   intro l hl;refine h l fun a ha=>?_;have:=nH ha;have:=mX a;omega
  | succ n ih=>
   intro l hl;refine h l fun a ha=>?_;have h1:=nH ha;have h2:=lh a;exact⟨ih _ (by omega),ih _ (by omega)⟩
 exact fun l=>H _ l (Nat.le_refl _)
theorem tI(f:List It→Nat)(g:It→Nat)(h0:f []=0)(hc:∀a r,f (a::r)=g a+f r)(l:List It){j:Nat}(h:j<l.length):f (l.take (j+1))=f (l.take j)+g l[j]:=by
 induction l generalizing j with
 | nil=>simp at h
 | cons a r ih=>
  cases j with
  | zero=>simp only[List.take_succ_cons,List.take_zero,hc,h0,List.getElem_cons_zero];omega
  | succ j=>simp only[List.take_succ_cons,hc,List.getElem_cons_succ];rw[ih (by simpa using h)];omega
theorem lE(l:List It){j:Nat}(h:j<l.length):bN (l.take (j+1))=bN (l.take j)+isz l[j]:=tI bN isz rfl (fun _ _=>rfl) l h
theorem ib(l:List It)(j:Nat):bN (l.take j)≤bN l:=by
 induction l generalizing j with
 | nil=>simp
 | cons a r ih=>cases j with
  | zero=>simp[bN]
  | succ j=>rw[List.take_succ_cons,bN,bN];have:=ih j;omega
theorem rc:∀l:List It,bN l≤1200000→∀σ,Fun G 56 [.d (dv l)] σ (a7 (.d (ay (bN l:Nat))) σ):=by
 refine fZ fun l ih hs σ=>?_;refine ax Tryz.func56 k56 rfl fun hb hw=>?_;unfold c56;have hln:=nL l;simp -dsimp -implicitDefEqProofs only[aw,ah,V.copy,V.lend,V.lend1,V.cells,V.boxable,over,ak,ae,ac,ai,V.plain,Nat.reduceLeDiff,cond_true,cond_false,implies_true,eq_self,ne_eq,reduceIte,reduceCtorEq,Nat.reduceBEq,Nat.reduceLT,Nat.reduceEqDiff,Nat.reduceAdd,Nat.reduceSub,Nat.reduceMul,List.length_map];refine bv [3,6,7,8] (fun(j:Nat) ρ σ'=>ρ=[(3,aF .i64 (bN (l.take j):Nat)),(6,.d (dv l)),(7,aF .i64 l.length),(8,aF .i64 j)]∧σ'=σ) l.length ⟨rfl,rfl⟩ ?_ _;rintro j ρ' σ' hj ⟨rfl,rfl⟩;by_cases hlt:j<l.length
 ·have ht:=lE l hlt;have hle:=ib l (j+1);have he:=lh l[j];have w1:IntKind.i64.wrap (1+((bN l[j].items:Nat):Int))=((1+bN l[j].items:Nat):Int):=by rw[bo (by omega) (by omega)];omega
  have w2:IntKind.i64.wrap (((1+bN l[j].items:Nat):Int)+((bN l[j].els:Nat):Int))=((isz l[j]:Nat):Int):=by rw[bo (by omega) (by omega)];omega
  have w3:IntKind.i64.wrap (((bN (l.take j):Nat):Int)+((isz l[j]:Nat):Int))=((bN (l.take (j+1)):Nat):Int):=by rw[bo (by omega) (by omega)];omega
  obtain⟨i1,i2⟩:=ih _ (List.getElem_mem hlt);simp -dsimp -implicitDefEqProofs only[aw,ah,V.copy,V.lend,V.lend1,V.cells,V.boxable,over,ak,ae,ac,ai,V.plain,Nat.reduceLeDiff,cond_true,cond_false,implies_true,eq_self,ne_eq,reduceIte,reduceCtorEq,Nat.reduceBEq,Nat.reduceLT,Nat.reduceEqDiff,Nat.reduceAdd,Nat.reduceSub,Nat.reduceMul,Int.ofNat_lt,hlt,decide_true,List.getElem?_eq_getElem hlt,ei l[j]];refine aM (i1 (by omega) _) ?_;simp -dsimp -implicitDefEqProofs only[aw,ah,V.copy,V.lend,V.lend1,V.cells,V.boxable,over,ak,ae,ac,ai,V.plain,Nat.reduceLeDiff,cond_true,cond_false,implies_true,eq_self,ne_eq,reduceIte,reduceCtorEq,Nat.reduceBEq,Nat.reduceLT,Nat.reduceEqDiff,Nat.reduceAdd,Nat.reduceSub,Nat.reduceMul];refine aM (i2 (by omega) _) ?_
  simp -dsimp -implicitDefEqProofs only[aw,ah,V.copy,V.lend,V.lend1,V.cells,V.boxable,over,ak,ae,ac,ai,V.plain,Nat.reduceLeDiff,cond_true,cond_false,implies_true,eq_self,ne_eq,reduceIte,reduceCtorEq,Nat.reduceBEq,Nat.reduceLT,Nat.reduceEqDiff,Nat.reduceAdd,Nat.reduceSub,Nat.reduceMul,w1,w2,w3,aS hlt (show l.length≤9223372036854775807 by omega)];exact⟨hlt,Nxt.drop (Nat.le_refl _) hb rfl ⟨rfl,rfl⟩⟩
 ·simp -dsimp -implicitDefEqProofs only[aw,ah,V.copy,V.lend,V.lend1,V.cells,V.boxable,over,ak,ae,ac,ai,V.plain,Nat.reduceLeDiff,cond_true,cond_false,implies_true,eq_self,ne_eq,reduceIte,reduceCtorEq,Nat.reduceBEq,Nat.reduceLT,Nat.reduceEqDiff,Nat.reduceAdd,Nat.reduceSub,Nat.reduceMul,Int.ofNat_lt,hlt,decide_false];rw[List.take_of_length_le (by omega)];first|exact aj hb rfl rfl List.take_length ⟨rfl,rfl⟩|exact aj hb rfl rfl List.take_left ⟨rfl,rfl⟩|(trace_state;fail "fin")
theorem kL:∀l:List It,bN l≤1200000→∀σ,Fun G 40 [.d (dv l)] σ (a7 (.d (ay (bN l:Nat))) σ):=by
 refine fZ fun l ih hs σ=>?_;refine ax Tryz.func40 k40 rfl fun hb hw=>?_;unfold c40;have hln:=nL l;simp -dsimp -implicitDefEqProofs only[aw,ah,V.copy,V.lend,V.lend1,V.cells,V.boxable,over,ak,ae,ac,ai,V.plain,Nat.reduceLeDiff,cond_true,cond_false,implies_true,eq_self,ne_eq,reduceIte,reduceCtorEq,Nat.reduceBEq,Nat.reduceLT,Nat.reduceEqDiff,Nat.reduceAdd,Nat.reduceSub,Nat.reduceMul,List.length_map];refine bv [0,3,4] (fun(j:Nat) ρ σ'=>∃m:Nat,ρ=[(0,.d (dv l)),(3,aF .i64 (m:Nat)),(4,aF .i64 j)]∧m+j=l.length+bN (l.take j)∧σ'=σ) l.length ⟨l.length,rfl,by simp[bN],rfl⟩ ?_ _;rintro j ρ' σ' hj ⟨m,rfl,hm,rfl⟩;by_cases hlt:j<l.length
 ·have ht:=lE l hlt;have hle:=ib l (j+1);have he:=lh l[j];have w1:IntKind.i64.wrap (((m:Nat):Int)+((bN l[j].items:Nat):Int))=((m+bN l[j].items:Nat):Int):=by rw[bo (by omega) (by omega)];omega
  have w2:IntKind.i64.wrap (((m+bN l[j].items:Nat):Int)+((bN l[j].els:Nat):Int))=((m+bN l[j].items+bN l[j].els:Nat):Int):=by rw[bo (by omega) (by omega)];omega
  obtain⟨i1,i2⟩:=ih _ (List.getElem_mem hlt);simp -dsimp -implicitDefEqProofs only[aw,ah,V.copy,V.lend,V.lend1,V.cells,V.boxable,over,ak,ae,ac,ai,V.plain,Nat.reduceLeDiff,cond_true,cond_false,implies_true,eq_self,ne_eq,reduceIte,reduceCtorEq,Nat.reduceBEq,Nat.reduceLT,Nat.reduceEqDiff,Nat.reduceAdd,Nat.reduceSub,Nat.reduceMul,Int.ofNat_lt,hlt,decide_true,List.getElem?_eq_getElem hlt,ei l[j],List.length_map];refine aM (i1 (by omega) _) ?_;simp -dsimp -implicitDefEqProofs only[aw,ah,V.copy,V.lend,V.lend1,V.cells,V.boxable,over,ak,ae,ac,ai,V.plain,Nat.reduceLeDiff,cond_true,cond_false,implies_true,eq_self,ne_eq,reduceIte,reduceCtorEq,Nat.reduceBEq,Nat.reduceLT,Nat.reduceEqDiff,Nat.reduceAdd,Nat.reduceSub,Nat.reduceMul,Int.ofNat_lt,hlt,decide_true,List.getElem?_eq_getElem hlt,ei l[j],List.length_map];refine aM (i2 (by omega) _) ?_
  simp -dsimp -implicitDefEqProofs only[aw,ah,V.copy,V.lend,V.lend1,V.cells,V.boxable,over,ak,ae,ac,ai,V.plain,Nat.reduceLeDiff,cond_true,cond_false,implies_true,eq_self,ne_eq,reduceIte,reduceCtorEq,Nat.reduceBEq,Nat.reduceLT,Nat.reduceEqDiff,Nat.reduceAdd,Nat.reduceSub,Nat.reduceMul,w1,w2,aS hlt (show l.length≤9223372036854775807 by omega)];exact⟨hlt,Nxt.same (Nat.le_refl _) hb rfl ⟨_,rfl,by omega,rfl⟩⟩
 ·simp -dsimp -implicitDefEqProofs only[aw,ah,V.copy,V.lend,V.lend1,V.cells,V.boxable,over,ak,ae,ac,ai,V.plain,Nat.reduceLeDiff,cond_true,cond_false,implies_true,eq_self,ne_eq,reduceIte,reduceCtorEq,Nat.reduceBEq,Nat.reduceLT,Nat.reduceEqDiff,Nat.reduceAdd,Nat.reduceSub,Nat.reduceMul,Int.ofNat_lt,hlt,decide_false,List.length_map];have:m=bN l:=by rw[List.take_of_length_le (by omega)]at hm;omega
  subst this;first|exact aj hb rfl rfl List.take_length ⟨rfl,rfl⟩|exact aj hb rfl rfl List.take_left ⟨rfl,rfl⟩|(trace_state;fail "fin")
theorem cQ(s:ByteArray)(σ:List (List V)):Fun G 65 [.d (am s)] σ (a7 (.d (.lit (.bool (aL s)))) σ):=
 ku Tryz.func65 (by kernel_rfl) (by kernel_rfl) trivial fun M bm w v hG hM hr=>by
  cases hr with
  | d hr=>cases hr with
   | lit _ hf=>exact eu s w (by simpa[bP,maxLen]using hf) (qA hG hM)
theorem lX(s:ByteArray)(σ:List (List V)):Fun G 87 [.d (am s)] σ (a7 (av (aK s)) σ):=by
 refine ax Tryz.func87 k87 rfl fun hb hw=>?_;unfold c87
 have hv:(bM (.mk 2 0 s [])=0)=(aK s=true):=by
  unfold bM
  have h1:cu (.mk 2 0 s [])=if aK s=true then 0 else 7:=by
   rw[cu,gH];unfold aC;cases hv:aK s<;>simp[hv,cr,cd,dg]
  rw[h1];cases hv:aK s<;>simp[bH,b9,aW,bu]
 simp -dsimp -implicitDefEqProofs only[aw,ah,V.copy,V.lend,V.lend1,V.cells,V.boxable,over,ak,ae,ac,ai,V.plain,Nat.reduceLeDiff,cond_true,cond_false,implies_true,eq_self,ne_eq,reduceIte,reduceCtorEq,Nat.reduceBEq,Nat.reduceLT,Nat.reduceEqDiff,Nat.reduceAdd,Nat.reduceSub,Nat.reduceMul];refine an (v:=.d (ay (bM (.mk 2 0 s [])))) (by have:=i6 (.mk 2 0 s []) (by simp[aW,bu]) (by simp[bH,b9]) σ;simpa only[a6,Ex.op,Ex.num,Ex.name,Ex.args,List.map_nil]using this) ?_;have hd:decide (bM (.mk 2 0 s [])=0)=aK s:=by rw[Bool.eq_iff_iff,decide_eq_true_eq,hv]
 simp -dsimp -implicitDefEqProofs only[aw,ah,V.copy,V.lend,V.lend1,V.cells,V.boxable,over,ak,ae,ac,ai,V.plain,Nat.reduceLeDiff,cond_true,cond_false,implies_true,eq_self,ne_eq,reduceIte,reduceCtorEq,Nat.reduceBEq,Nat.reduceLT,Nat.reduceEqDiff,Nat.reduceAdd,Nat.reduceSub,Nat.reduceMul,hd];first|exact aj hb rfl rfl List.take_length ⟨rfl,rfl⟩|exact aj hb rfl rfl List.take_left ⟨rfl,rfl⟩|(trace_state;fail "fin")
theorem sX(e:Ex)(hl:e.args.length≤1200000)(σ:List (List V)):Fun G 114 [vex e] σ (a7 (av (dh e)) σ):=by
 refine ax Tryz.func114 D1 (by simp only[a6];rfl) fun hb hw=>?_;unfold AW;have hlen:decide (((e.args.length:Nat):Int)=0)=e.args.isEmpty:=by cases e.args<;>simp;omega
 unfold dh;simp -dsimp -implicitDefEqProofs only[aw,ah,V.copy,V.lend,V.lend1,V.cells,V.boxable,over,ak,ae,ac,ai,V.plain,Nat.reduceLeDiff,cond_true,cond_false,implies_true,eq_self,ne_eq,reduceIte,reduceCtorEq,Nat.reduceBEq,Nat.reduceLT,Nat.reduceEqDiff,Nat.reduceAdd,Nat.reduceSub,Nat.reduceMul,a6,List.length_map,hlen];all_goals (repeat' (first|(refine bQ (fun h1=>?_) (fun h1=>?_)<;>(simp -dsimp -implicitDefEqProofs only[aw,ah,V.copy,V.lend,V.lend1,V.cells,V.boxable,over,ak,ae,ac,ai,V.plain,Nat.reduceLeDiff,cond_true,cond_false,implies_true,eq_self,ne_eq,reduceIte,reduceCtorEq,Nat.reduceBEq,Nat.reduceLT,Nat.reduceEqDiff,Nat.reduceAdd,Nat.reduceSub,Nat.reduceMul,h1,List.length_map,hlen];try rw[h1]))))
 all_goals first|exact aj hb rfl rfl List.take_length ⟨rfl,rfl⟩|exact aj hb rfl rfl List.take_left ⟨rfl,rfl⟩|(trace_state;fail "fin")
theorem fo{α:Type}(l:List α):decide (((l.length:Nat):Int)=0)=l.isEmpty:=by cases l<;>simp;omega
theorem pf{α β:Type}(l:List α)(m:List β):decide ((((l.length+m.length:Nat)):Int)=0)=(l.isEmpty&&m.isEmpty):=by cases l<;>cases m<;>simp<;>omega
abbrev CL(u:List Bool):V:=.agg (u.map av)
def gG(k:Int):List Bool:=if k=1∨k=2 then[true,false,false,false,false,false,false]else if k=3 then[false,true,false,true,false,false,false]else if k=4 then[true,false,false,false,true,true,false]
 else if k=5 then[false,true,true,false,true,false,false]else[false,false,false,false,false,false,true]
set_option maxRecDepth 20000 in
set_option maxHeartbeats 4000000 in
theorem so(x:It)(hbig:eY x≤1200000)(hk:1≤x.kind∧x.kind≤6)(σ:List (List V)):Fun G 85 [vit x,CL (gG x.kind)] σ (a7 (av (bF x)) σ):=by
 have hb0:=cm x
 have h3:x.ex.args.length≤1200000:=by
  have h2:bu x.ex.args≤aW x.ex:=by cases x.ex;simp only[aW,Ex.args];omega
  have:=An x.ex.args;omega
 have w1:IntKind.i64.wrap (((x.bef.length:Nat):Int)+((x.aft.length:Nat):Int))=((x.bef.length+x.aft.length:Nat):Int):=by rw[bo (by omega) (by omega)];omega
 have e1:=fo x.ws;have e2:=fo x.items;have e3:=fo x.els;have e4:=pf x.bef x.aft;have hk6:x.kind=1∨x.kind=2∨x.kind=3∨x.kind=4∨x.kind=5∨x.kind=6:=by omega
 refine ax Tryz.func85 k85 (by simp only[aV];rfl) fun hb hw=>?_;unfold c85;have hbl:=fun σ=>sX x.ex h3 σ;simp only[a6]at hbl;rcases hk6 with hk|hk|hk|hk|hk|hk
 ·have hp:bF x=(decide (x.name=⟨#[]⟩)&&decide (x.idx=⟨#[]⟩)&&x.ws.isEmpty&&x.items.isEmpty&&x.els.isEmpty&&(x.bef.isEmpty&&x.aft.isEmpty)):=by unfold bF;simp[hk]
  have hu:gG x.kind=[true,false,false,false,false,false,false]:=by unfold gG;simp[hk]
  rw[hp,hu];simp -dsimp -implicitDefEqProofs only[aw,ah,V.copy,V.lend,V.lend1,V.cells,V.boxable,over,ak,ae,ac,ai,V.plain,Nat.reduceLeDiff,cond_true,cond_false,implies_true,eq_self,ne_eq,reduceIte,reduceCtorEq,Nat.reduceBEq,Nat.reduceLT,Nat.reduceEqDiff,Nat.reduceAdd,Nat.reduceSub,Nat.reduceMul,aV,List.length_map,e1,e2,e3,e4,w1];all_goals (repeat' (first|(refine bQ (fun h1=>?_) (fun h1=>?_)<;>(simp -dsimp -implicitDefEqProofs only[aw,ah,V.copy,V.lend,V.lend1,V.cells,V.boxable,over,ak,ae,ac,ai,V.plain,Nat.reduceLeDiff,cond_true,cond_false,implies_true,eq_self,ne_eq,reduceIte,reduceCtorEq,Nat.reduceBEq,Nat.reduceLT,Nat.reduceEqDiff,Nat.reduceAdd,Nat.reduceSub,Nat.reduceMul,h1,List.length_map,e1,e2,e3,e4,w1];try rw[h1]))))
  all_goals first|exact aj hb rfl rfl List.take_length ⟨rfl,rfl⟩|exact aj hb rfl rfl List.take_left ⟨rfl,rfl⟩|(trace_state;fail "fin")
 ·have hp:bF x=(decide (x.name=⟨#[]⟩)&&decide (x.idx=⟨#[]⟩)&&x.ws.isEmpty&&x.items.isEmpty&&x.els.isEmpty&&(x.bef.isEmpty&&x.aft.isEmpty)):=by unfold bF;simp[hk]
  have hu:gG x.kind=[true,false,false,false,false,false,false]:=by unfold gG;simp[hk]
  rw[hp,hu];simp -dsimp -implicitDefEqProofs only[aw,ah,V.copy,V.lend,V.lend1,V.cells,V.boxable,over,ak,ae,ac,ai,V.plain,Nat.reduceLeDiff,cond_true,cond_false,implies_true,eq_self,ne_eq,reduceIte,reduceCtorEq,Nat.reduceBEq,Nat.reduceLT,Nat.reduceEqDiff,Nat.reduceAdd,Nat.reduceSub,Nat.reduceMul,aV,List.length_map,e1,e2,e3,e4,w1];all_goals (repeat' (first|(refine bQ (fun h1=>?_) (fun h1=>?_)<;>(simp -dsimp -implicitDefEqProofs only[aw,ah,V.copy,V.lend,V.lend1,V.cells,V.boxable,over,ak,ae,ac,ai,V.plain,Nat.reduceLeDiff,cond_true,cond_false,implies_true,eq_self,ne_eq,reduceIte,reduceCtorEq,Nat.reduceBEq,Nat.reduceLT,Nat.reduceEqDiff,Nat.reduceAdd,Nat.reduceSub,Nat.reduceMul,h1,List.length_map,e1,e2,e3,e4,w1];try rw[h1]))))
  all_goals first|exact aj hb rfl rfl List.take_length ⟨rfl,rfl⟩|exact aj hb rfl rfl List.take_left ⟨rfl,rfl⟩|(trace_state;fail "fin")
 ·have hp:bF x=(dh x.ex&&decide (x.idx=⟨#[]⟩)&&x.items.isEmpty&&x.els.isEmpty&&(x.bef.isEmpty&&x.aft.isEmpty)):=by unfold bF;simp[hk]
  have hu:gG x.kind=[false,true,false,true,false,false,false]:=by unfold gG;simp[hk]
  rw[hp,hu];simp -dsimp -implicitDefEqProofs only[aw,ah,V.copy,V.lend,V.lend1,V.cells,V.boxable,over,ak,ae,ac,ai,V.plain,Nat.reduceLeDiff,cond_true,cond_false,implies_true,eq_self,ne_eq,reduceIte,reduceCtorEq,Nat.reduceBEq,Nat.reduceLT,Nat.reduceEqDiff,Nat.reduceAdd,Nat.reduceSub,Nat.reduceMul,aV,List.length_map,e1,e2,e3,e4,w1];refine an (hbl _) ?_;simp -dsimp -implicitDefEqProofs only[aw,ah,V.copy,V.lend,V.lend1,V.cells,V.boxable,over,ak,ae,ac,ai,V.plain,Nat.reduceLeDiff,cond_true,cond_false,implies_true,eq_self,ne_eq,reduceIte,reduceCtorEq,Nat.reduceBEq,Nat.reduceLT,Nat.reduceEqDiff,Nat.reduceAdd,Nat.reduceSub,Nat.reduceMul,aV,List.length_map,e1,e2,e3,e4,w1]
  all_goals (repeat' (first|(refine bQ (fun h1=>?_) (fun h1=>?_)<;>(simp -dsimp -implicitDefEqProofs only[aw,ah,V.copy,V.lend,V.lend1,V.cells,V.boxable,over,ak,ae,ac,ai,V.plain,Nat.reduceLeDiff,cond_true,cond_false,implies_true,eq_self,ne_eq,reduceIte,reduceCtorEq,Nat.reduceBEq,Nat.reduceLT,Nat.reduceEqDiff,Nat.reduceAdd,Nat.reduceSub,Nat.reduceMul,h1,List.length_map,e1,e2,e3,e4,w1];try rw[h1]))))
  all_goals first|exact aj hb rfl rfl List.take_length ⟨rfl,rfl⟩|exact aj hb rfl rfl List.take_left ⟨rfl,rfl⟩|(trace_state;fail "fin")
 ·have hp:bF x=(decide (x.name=⟨#[]⟩)&&decide (x.idx=⟨#[]⟩)&&x.ws.isEmpty&&(x.bef.isEmpty&&x.aft.isEmpty)):=by unfold bF;simp[hk]
  have hu:gG x.kind=[true,false,false,false,true,true,false]:=by unfold gG;simp[hk]
  rw[hp,hu];simp -dsimp -implicitDefEqProofs only[aw,ah,V.copy,V.lend,V.lend1,V.cells,V.boxable,over,ak,ae,ac,ai,V.plain,Nat.reduceLeDiff,cond_true,cond_false,implies_true,eq_self,ne_eq,reduceIte,reduceCtorEq,Nat.reduceBEq,Nat.reduceLT,Nat.reduceEqDiff,Nat.reduceAdd,Nat.reduceSub,Nat.reduceMul,aV,List.length_map,e1,e2,e3,e4,w1];all_goals (repeat' (first|(refine bQ (fun h1=>?_) (fun h1=>?_)<;>(simp -dsimp -implicitDefEqProofs only[aw,ah,V.copy,V.lend,V.lend1,V.cells,V.boxable,over,ak,ae,ac,ai,V.plain,Nat.reduceLeDiff,cond_true,cond_false,implies_true,eq_self,ne_eq,reduceIte,reduceCtorEq,Nat.reduceBEq,Nat.reduceLT,Nat.reduceEqDiff,Nat.reduceAdd,Nat.reduceSub,Nat.reduceMul,h1,List.length_map,e1,e2,e3,e4,w1];try rw[h1]))))
  all_goals first|exact aj hb rfl rfl List.take_length ⟨rfl,rfl⟩|exact aj hb rfl rfl List.take_left ⟨rfl,rfl⟩|(trace_state;fail "fin")
 ·have hp:bF x=(dh x.ex&&x.ws.isEmpty&&x.els.isEmpty&&(x.bef.isEmpty&&x.aft.isEmpty)):=by unfold bF;simp[hk]
  have hu:gG x.kind=[false,true,true,false,true,false,false]:=by unfold gG;simp[hk]
  rw[hp,hu];simp -dsimp -implicitDefEqProofs only[aw,ah,V.copy,V.lend,V.lend1,V.cells,V.boxable,over,ak,ae,ac,ai,V.plain,Nat.reduceLeDiff,cond_true,cond_false,implies_true,eq_self,ne_eq,reduceIte,reduceCtorEq,Nat.reduceBEq,Nat.reduceLT,Nat.reduceEqDiff,Nat.reduceAdd,Nat.reduceSub,Nat.reduceMul,aV,List.length_map,e1,e2,e3,e4,w1];refine an (hbl _) ?_;simp -dsimp -implicitDefEqProofs only[aw,ah,V.copy,V.lend,V.lend1,V.cells,V.boxable,over,ak,ae,ac,ai,V.plain,Nat.reduceLeDiff,cond_true,cond_false,implies_true,eq_self,ne_eq,reduceIte,reduceCtorEq,Nat.reduceBEq,Nat.reduceLT,Nat.reduceEqDiff,Nat.reduceAdd,Nat.reduceSub,Nat.reduceMul,aV,List.length_map,e1,e2,e3,e4,w1]
  all_goals (repeat' (first|(refine bQ (fun h1=>?_) (fun h1=>?_)<;>(simp -dsimp -implicitDefEqProofs only[aw,ah,V.copy,V.lend,V.lend1,V.cells,V.boxable,over,ak,ae,ac,ai,V.plain,Nat.reduceLeDiff,cond_true,cond_false,implies_true,eq_self,ne_eq,reduceIte,reduceCtorEq,Nat.reduceBEq,Nat.reduceLT,Nat.reduceEqDiff,Nat.reduceAdd,Nat.reduceSub,Nat.reduceMul,h1,List.length_map,e1,e2,e3,e4,w1];try rw[h1]))))
  all_goals first|exact aj hb rfl rfl List.take_length ⟨rfl,rfl⟩|exact aj hb rfl rfl List.take_left ⟨rfl,rfl⟩|(trace_state;fail "fin")
 ·have hp:bF x=(dh x.ex&&decide (x.name=⟨#[]⟩)&&decide (x.idx=⟨#[]⟩)&&x.ws.isEmpty&&x.items.isEmpty&&x.els.isEmpty):=by unfold bF;simp[hk]
  have hu:gG x.kind=[false,false,false,false,false,false,true]:=by unfold gG;simp[hk]
  rw[hp,hu];simp -dsimp -implicitDefEqProofs only[aw,ah,V.copy,V.lend,V.lend1,V.cells,V.boxable,over,ak,ae,ac,ai,V.plain,Nat.reduceLeDiff,cond_true,cond_false,implies_true,eq_self,ne_eq,reduceIte,reduceCtorEq,Nat.reduceBEq,Nat.reduceLT,Nat.reduceEqDiff,Nat.reduceAdd,Nat.reduceSub,Nat.reduceMul,aV,List.length_map,e1,e2,e3,e4,w1];refine an (hbl _) ?_;simp -dsimp -implicitDefEqProofs only[aw,ah,V.copy,V.lend,V.lend1,V.cells,V.boxable,over,ak,ae,ac,ai,V.plain,Nat.reduceLeDiff,cond_true,cond_false,implies_true,eq_self,ne_eq,reduceIte,reduceCtorEq,Nat.reduceBEq,Nat.reduceLT,Nat.reduceEqDiff,Nat.reduceAdd,Nat.reduceSub,Nat.reduceMul,aV,List.length_map,e1,e2,e3,e4,w1]
  all_goals (repeat' (first|(refine bQ (fun h1=>?_) (fun h1=>?_)<;>(simp -dsimp -implicitDefEqProofs only[aw,ah,V.copy,V.lend,V.lend1,V.cells,V.boxable,over,ak,ae,ac,ai,V.plain,Nat.reduceLeDiff,cond_true,cond_false,implies_true,eq_self,ne_eq,reduceIte,reduceCtorEq,Nat.reduceBEq,Nat.reduceLT,Nat.reduceEqDiff,Nat.reduceAdd,Nat.reduceSub,Nat.reduceMul,h1,List.length_map,e1,e2,e3,e4,w1];try rw[h1]))))
  all_goals first|exact aj hb rfl rfl List.take_length ⟨rfl,rfl⟩|exact aj hb rfl rfl List.take_left ⟨rfl,rfl⟩|(trace_state;fail "fin")
def wE(ws:List Wt):Int:=if ws.length>16 then 2 else if ws=[]then 1 else if ws.all wtB=false then 1 else 0
theorem nS(ws:List Wt)(hl:ws.length≤1200000)(σ:List (List V)):Fun G 86 [.d (.sl (ws.map dwt))] σ (a7 (.d (ay (wE ws))) σ):=by
 refine ax Tryz.func86 k86 rfl fun hb hw=>?_;unfold c86 wE;by_cases h1:ws.length>16
 ·have h1':((16:Int)<((ws.length:Nat):Int)):=by omega
  rw[if_pos h1];simp -dsimp -implicitDefEqProofs only[aw,ah,V.copy,V.lend,V.lend1,V.cells,V.boxable,over,ak,ae,ac,ai,V.plain,Nat.reduceLeDiff,cond_true,cond_false,implies_true,eq_self,ne_eq,reduceIte,reduceCtorEq,Nat.reduceBEq,Nat.reduceLT,Nat.reduceEqDiff,Nat.reduceAdd,Nat.reduceSub,Nat.reduceMul,List.length_map,decide_eq_true h1'];first|exact aj hb rfl rfl List.take_length ⟨rfl,rfl⟩|exact aj hb rfl rfl List.take_left ⟨rfl,rfl⟩|(trace_state;fail "fin")
 ·have h1':¬((16:Int)<((ws.length:Nat):Int)):=by omega
  rw[if_neg h1];by_cases h2:ws=[]
  ·rw[if_pos h2];subst h2;simp -dsimp -implicitDefEqProofs only[aw,ah,V.copy,V.lend,V.lend1,V.cells,V.boxable,over,ak,ae,ac,ai,V.plain,Nat.reduceLeDiff,cond_true,cond_false,implies_true,eq_self,ne_eq,reduceIte,reduceCtorEq,Nat.reduceBEq,Nat.reduceLT,Nat.reduceEqDiff,Nat.reduceAdd,Nat.reduceSub,Nat.reduceMul,List.length_map,decide_false,Int.reduceEq,decide_true,Int.ofNat_zero,Int.reduceLT];first|exact aj hb rfl rfl List.take_length ⟨rfl,rfl⟩|exact aj hb rfl rfl List.take_left ⟨rfl,rfl⟩|(trace_state;fail "fin")
  ·rw[if_neg h2];have h2':¬(((ws.length:Nat):Int)=0):=by have:=List.length_pos_iff.2 h2;omega
   simp -dsimp -implicitDefEqProofs only[aw,ah,V.copy,V.lend,V.lend1,V.cells,V.boxable,over,ak,ae,ac,ai,V.plain,Nat.reduceLeDiff,cond_true,cond_false,implies_true,eq_self,ne_eq,reduceIte,reduceCtorEq,Nat.reduceBEq,Nat.reduceLT,Nat.reduceEqDiff,Nat.reduceAdd,Nat.reduceSub,Nat.reduceMul,List.length_map,decide_eq_false h1',decide_eq_false h2'];refine bv [13,14,15] (fun(j:Nat) ρ σ'=>ρ=[(13,.d (.sl (ws.map dwt))),(14,aF .i64 ws.length),(15,aF .i64 j)]∧σ'=σ∧ws.all wtB=(ws.drop j).all wtB) ws.length ⟨rfl,rfl,rfl⟩ ?_ _;rintro j ρ' σ' hj ⟨rfl,rfl,hr⟩;by_cases hlt:j<ws.length
   ·rw[List.drop_eq_getElem_cons hlt,List.all_cons]at hr;have hd:dwt ws[j]=[ay ws[j].lo,ay ws[j].hi,ay ws[j].w,dbl ws[j].each]:=rfl;have hwt:wtB ws[j]=(!decide (ws[j].lo<0) && !decide (ws[j].hi<ws[j].lo) && !decide (65535<ws[j].hi) && !decide (ws[j].w<0) && !decide (1000<ws[j].w)):=by unfold wtB;rw[Bool.eq_iff_iff];simp
    rw[hwt]at hr;simp -dsimp -implicitDefEqProofs only[aw,ah,V.copy,V.lend,V.lend1,V.cells,V.boxable,over,ak,ae,ac,ai,V.plain,Nat.reduceLeDiff,cond_true,cond_false,implies_true,eq_self,ne_eq,reduceIte,reduceCtorEq,Nat.reduceBEq,Nat.reduceLT,Nat.reduceEqDiff,Nat.reduceAdd,Nat.reduceSub,Nat.reduceMul,Int.ofNat_lt,hlt,decide_true,List.getElem?_eq_getElem hlt,hd,aS hlt (show ws.length≤9223372036854775807 by omega)];all_goals (repeat' (first|(refine bQ (fun h1=>?_) (fun h1=>?_)<;>(simp -dsimp -implicitDefEqProofs only[aw,ah,V.copy,V.lend,V.lend1,V.cells,V.boxable,over,ak,ae,ac,ai,V.plain,Nat.reduceLeDiff,cond_true,cond_false,implies_true,eq_self,ne_eq,reduceIte,reduceCtorEq,Nat.reduceBEq,Nat.reduceLT,Nat.reduceEqDiff,Nat.reduceAdd,Nat.reduceSub,Nat.reduceMul,h1,aS hlt (show ws.length≤9223372036854775807 by omega)];try rw[h1]))))
    all_goals first|exact aj hb rfl rfl List.take_left ⟨by rw[hr];simp only[*,Bool.not_true,Bool.not_false,Bool.and_false,Bool.false_and,Bool.true_and,if_true];rfl,rfl⟩|exact⟨hlt,Nxt.drop (Nat.le_refl _) hb rfl ⟨rfl,rfl,by rw[hr];simp only[*,Bool.not_true,Bool.not_false,Bool.and_false,Bool.false_and,Bool.true_and]⟩⟩|(trace_state;fail)
   ·simp -dsimp -implicitDefEqProofs only[aw,ah,V.copy,V.lend,V.lend1,V.cells,V.boxable,over,ak,ae,ac,ai,V.plain,Nat.reduceLeDiff,cond_true,cond_false,implies_true,eq_self,ne_eq,reduceIte,reduceCtorEq,Nat.reduceBEq,Nat.reduceLT,Nat.reduceEqDiff,Nat.reduceAdd,Nat.reduceSub,Nat.reduceMul,Int.ofNat_lt,hlt,decide_false];rw[List.drop_eq_nil_of_le (by omega)]at hr;rw[hr];first|exact aj hb rfl rfl List.take_length ⟨rfl,rfl⟩|exact aj hb rfl rfl List.take_left ⟨rfl,rfl⟩|(trace_state;fail "fin")
end Go.Proofs.YtcbahpllcfbkmaaGreatDoor
