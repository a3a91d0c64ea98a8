import Derived.Test.YtcbahpllcfbkmaaGreatDoorK3
import Derived.Test.YtcbahpllcfbkmaaGreatDoorLib7
import Derived.Test.YtcbahpllcfbkmaaGreatDoorBr8
import Derived.Test.YtcbahpllcfbkmaaGreatDoorData
import Derived.Test.YtcbahpllcfbkmaaGreatDoorNames2
import Derived.Test.YtcbahpllcfbkmaaGreatDoorK
set_option linter.unusedVariables false
set_option linter.unusedSimpArgs false
set_option linter.unusedSectionVars false
namespace Go.Proofs.YtcbahpllcfbkmaaGreatDoor
open Go.RowKit
theorem fD{P:List It→Prop}(h:∀l,(∀a,a∈l→P a.items∧P a.els)→P l):∀l,P l:=by
 have H:∀n l,ci l≤n→P l:=by
  intro n
  induction n with
  | zero=>
   intro l hl;refine h l fun a ha=>?_;have:=ov ha;have:=nE a;omega
  | succ n ih=>
   intro l hl;refine h l fun a ha=>?_;have h1:=ov ha;have h2:=li a;exact⟨ih _ (by omega),ih _ (by omega)⟩
 exact fun l=>H _ l (Nat.le_refl _)
theorem xp(f:List It→Nat)(g:It→Nat)(h0:f []=0)(hc:∀a r,f (a::r)=g a+f r)(l:List It){j:Nat}(h:j<l.length):f (l.take (j+1))=f (l.take j)+g l[j]:=by
 induction l generalizing j with
 | nil=>simp at h
 | cons a r ih=>
  cases j with
  | zero=>simp only[List.take_succ_cons,List.take_zero,hc,h0,List.getElem_cons_zero];omega
  | succ j=>simp only[List.take_succ_cons,hc,List.getElem_cons_succ];rw[ih (by simpa using h)];omega
theorem mC(l:List It){j:Nat}(h:j<l.length):ci (l.take (j+1))=ci (l.take j)+isz l[j]:=xp ci isz rfl (fun _ _=>rfl) l h
theorem jl(l:List It)(j:Nat):ci (l.take j)≤ci l:=by
 induction l generalizing j with
 | nil=>simp
 | cons a r ih=>cases j with
  | zero=>simp[ci]
  | succ j=>rw[List.take_succ_cons,ci,ci];have:=ih j;omega
theorem ts:∀l:List It,ci l≤1200000→∀σ,Fun G 56 [.d (eO l)] σ (aN (.d (ay (ci l:Nat))) σ):=by
 refine fD fun l ih hs σ=>?_;refine aq Tryz.func56 k56 rfl fun hb hw=>?_;unfold c56;have hln:=oP l;simp -dsimp -implicitDefEqProofs only[aw,ah,V.copy,V.lend,V.lend1,V.cells,V.boxable,over,al,ae,ac,ai,V.plain,Nat.reduceLeDiff,cond_true,cond_false,implies_true,eq_self,ne_eq,reduceIte,reduceCtorEq,Nat.reduceBEq,Nat.reduceLT,Nat.reduceEqDiff,Nat.reduceAdd,Nat.reduceSub,Nat.reduceMul,List.length_map];refine aT [3,6,7,8] (fun(j:Nat) ρ σ'=>ρ=[(3,aK .i64 (ci (l.take j):Nat)),(6,.d (eO l)),(7,aK .i64 l.length),(8,aK .i64 j)]∧σ'=σ) l.length ⟨rfl,rfl⟩ ?_ _;rintro j ρ' σ' hj ⟨rfl,rfl⟩;by_cases hlt:j<l.length
 ·have ht:=mC l hlt;have hle:=jl l (j+1);have he:=li l[j];have w1:IntKind.i64.wrap (1+((ci l[j].items:Nat):Int))=((1+ci l[j].items:Nat):Int):=by rw[aS (by omega) (by omega)];omega
  have w2:IntKind.i64.wrap (((1+ci l[j].items:Nat):Int)+((ci l[j].els:Nat):Int))=((isz l[j]:Nat):Int):=by rw[aS (by omega) (by omega)];omega
  have w3:IntKind.i64.wrap (((ci (l.take j):Nat):Int)+((isz l[j]:Nat):Int))=((ci (l.take (j+1)):Nat):Int):=by rw[aS (by omega) (by omega)];omega
  obtain⟨i1,i2⟩:=ih _ (List.getElem_mem hlt);simp -dsimp -implicitDefEqProofs only[aw,ah,V.copy,V.lend,V.lend1,V.cells,V.boxable,over,al,ae,ac,ai,V.plain,Nat.reduceLeDiff,cond_true,cond_false,implies_true,eq_self,ne_eq,reduceIte,reduceCtorEq,Nat.reduceBEq,Nat.reduceLT,Nat.reduceEqDiff,Nat.reduceAdd,Nat.reduceSub,Nat.reduceMul,Int.ofNat_lt,hlt,decide_true,List.getElem?_eq_getElem hlt,eE l[j]];refine aD (i1 (by omega) _) ?_;simp -dsimp -implicitDefEqProofs only[aw,ah,V.copy,V.lend,V.lend1,V.cells,V.boxable,over,al,ae,ac,ai,V.plain,Nat.reduceLeDiff,cond_true,cond_false,implies_true,eq_self,ne_eq,reduceIte,reduceCtorEq,Nat.reduceBEq,Nat.reduceLT,Nat.reduceEqDiff,Nat.reduceAdd,Nat.reduceSub,Nat.reduceMul];refine aD (i2 (by omega) _) ?_
  simp -dsimp -implicitDefEqProofs only[aw,ah,V.copy,V.lend,V.lend1,V.cells,V.boxable,over,al,ae,ac,ai,V.plain,Nat.reduceLeDiff,cond_true,cond_false,implies_true,eq_self,ne_eq,reduceIte,reduceCtorEq,Nat.reduceBEq,Nat.reduceLT,Nat.reduceEqDiff,Nat.reduceAdd,Nat.reduceSub,Nat.reduceMul,w1,w2,w3,aJ hlt (show l.length≤9223372036854775807 by omega)];exact⟨hlt,Nxt.drop (Nat.le_refl _) hb rfl ⟨rfl,rfl⟩⟩
 ·simp -dsimp -implicitDefEqProofs only[aw,ah,V.copy,V.lend,V.lend1,V.cells,V.boxable,over,al,ae,ac,ai,V.plain,Nat.reduceLeDiff,cond_true,cond_false,implies_true,eq_self,ne_eq,reduceIte,reduceCtorEq,Nat.reduceBEq,Nat.reduceLT,Nat.reduceEqDiff,Nat.reduceAdd,Nat.reduceSub,Nat.reduceMul,Int.ofNat_lt,hlt,decide_false];rw[List.take_of_length_le (by omega)];first|exact aj hb rfl rfl List.take_length ⟨rfl,rfl⟩|exact aj hb rfl rfl List.take_left ⟨rfl,rfl⟩|(trace_state;fail "fin")
theorem pU:∀l:List It,ci l≤1200000→∀σ,Fun G 40 [.d (eO l)] σ (aN (.d (ay (ci l:Nat))) σ):=by
 refine fD fun l ih hs σ=>?_;refine aq Tryz.func40 k40 rfl fun hb hw=>?_;unfold c40;have hln:=oP l;simp -dsimp -implicitDefEqProofs only[aw,ah,V.copy,V.lend,V.lend1,V.cells,V.boxable,over,al,ae,ac,ai,V.plain,Nat.reduceLeDiff,cond_true,cond_false,implies_true,eq_self,ne_eq,reduceIte,reduceCtorEq,Nat.reduceBEq,Nat.reduceLT,Nat.reduceEqDiff,Nat.reduceAdd,Nat.reduceSub,Nat.reduceMul,List.length_map];refine aT [0,3,4] (fun(j:Nat) ρ σ'=>∃m:Nat,ρ=[(0,.d (eO l)),(3,aK .i64 (m:Nat)),(4,aK .i64 j)]∧m+j=l.length+ci (l.take j)∧σ'=σ) l.length ⟨l.length,rfl,by simp[ci],rfl⟩ ?_ _;rintro j ρ' σ' hj ⟨m,rfl,hm,rfl⟩;by_cases hlt:j<l.length
 ·have ht:=mC l hlt;have hle:=jl l (j+1);have he:=li l[j];have w1:IntKind.i64.wrap (((m:Nat):Int)+((ci l[j].items:Nat):Int))=((m+ci l[j].items:Nat):Int):=by rw[aS (by omega) (by omega)];omega
  have w2:IntKind.i64.wrap (((m+ci l[j].items:Nat):Int)+((ci l[j].els:Nat):Int))=((m+ci l[j].items+ci l[j].els:Nat):Int):=by rw[aS (by omega) (by omega)];omega
  obtain⟨i1,i2⟩:=ih _ (List.getElem_mem hlt);simp -dsimp -implicitDefEqProofs only[aw,ah,V.copy,V.lend,V.lend1,V.cells,V.boxable,over,al,ae,ac,ai,V.plain,Nat.reduceLeDiff,cond_true,cond_false,implies_true,eq_self,ne_eq,reduceIte,reduceCtorEq,Nat.reduceBEq,Nat.reduceLT,Nat.reduceEqDiff,Nat.reduceAdd,Nat.reduceSub,Nat.reduceMul,Int.ofNat_lt,hlt,decide_true,List.getElem?_eq_getElem hlt,eE l[j],List.length_map];refine aD (i1 (by omega) _) ?_;simp -dsimp -implicitDefEqProofs only[aw,ah,V.copy,V.lend,V.lend1,V.cells,V.boxable,over,al,ae,ac,ai,V.plain,Nat.reduceLeDiff,cond_true,cond_false,implies_true,eq_self,ne_eq,reduceIte,reduceCtorEq,Nat.reduceBEq,Nat.reduceLT,Nat.reduceEqDiff,Nat.reduceAdd,Nat.reduceSub,Nat.reduceMul,Int.ofNat_lt,hlt,decide_true,List.getElem?_eq_getElem hlt,eE l[j],List.length_map];refine aD (i2 (by omega) _) ?_
  simp -dsimp -implicitDefEqProofs only[aw,ah,V.copy,V.lend,V.lend1,V.cells,V.boxable,over,al,ae,ac,ai,V.plain,Nat.reduceLeDiff,cond_true,cond_false,implies_true,eq_self,ne_eq,reduceIte,reduceCtorEq,Nat.reduceBEq,Nat.reduceLT,Nat.reduceEqDiff,Nat.reduceAdd,Nat.reduceSub,Nat.reduceMul,w1,w2,aJ hlt (show l.length≤9223372036854775807 by omega)];exact⟨hlt,Nxt.same (Nat.le_refl _) hb rfl ⟨_,rfl,by omega,rfl⟩⟩
 ·simp -dsimp -implicitDefEqProofs only[aw,ah,V.copy,V.lend,V.lend1,V.cells,V.boxable,over,al,ae,ac,ai,V.plain,Nat.reduceLeDiff,cond_true,cond_false,implies_true,eq_self,ne_eq,reduceIte,reduceCtorEq,Nat.reduceBEq,Nat.reduceLT,Nat.reduceEqDiff,Nat.reduceAdd,Nat.reduceSub,Nat.reduceMul,Int.ofNat_lt,hlt,decide_false,List.length_map];have:m=ci l:=by rw[List.take_of_length_le (by omega)]at hm;omega
  subst this;first|exact aj hb rfl rfl List.take_length ⟨rfl,rfl⟩|exact aj hb rfl rfl List.take_left ⟨rfl,rfl⟩|(trace_state;fail "fin")
theorem dl(s:ByteArray)(σ:List (List V)):Fun G 65 [.d (ak s)] σ (aN (.d (.lit (.bool (aQ s)))) σ):=
 kO Tryz.func65 (by kernel_rfl) (by kernel_rfl) trivial fun M bm w v hG hM hr=>by
  cases hr with
  | d hr=>cases hr with
   | lit _ hf=>exact eX s w (by simpa[b9,maxLen]using hf) (rD hG hM)
theorem mV(s:ByteArray)(σ:List (List V)):Fun G 87 [.d (ak s)] σ (aN (aB (bc s)) σ):=by
 refine aq Tryz.func87 k87 rfl fun hb hw=>?_;unfold c87
 have hv:(bB (.mk 2 0 s [])=0)=(bc s=true):=by
  unfold bB
  have h1:cL (.mk 2 0 s [])=if bc s=true then 0 else 7:=by
   rw[cL,ig];unfold aL;cases hv:bc s<;>simp[hv,cH,cx,dO]
  rw[h1];cases hv:bc s<;>simp[bJ,cu,bh,bD]
 simp -dsimp -implicitDefEqProofs only[aw,ah,V.copy,V.lend,V.lend1,V.cells,V.boxable,over,al,ae,ac,ai,V.plain,Nat.reduceLeDiff,cond_true,cond_false,implies_true,eq_self,ne_eq,reduceIte,reduceCtorEq,Nat.reduceBEq,Nat.reduceLT,Nat.reduceEqDiff,Nat.reduceAdd,Nat.reduceSub,Nat.reduceMul];refine am (v:=.d (ay (bB (.mk 2 0 s [])))) (by have:=jB (.mk 2 0 s []) (by simp[bh,bD]) (by simp[bJ,cu]) σ;simpa only[aI,Ex.op,Ex.num,Ex.name,Ex.args,List.map_nil]using this) ?_;have hd:decide (bB (.mk 2 0 s [])=0)=bc s:=by rw[Bool.eq_iff_iff,decide_eq_true_eq,hv]
 simp -dsimp -implicitDefEqProofs only[aw,ah,V.copy,V.lend,V.lend1,V.cells,V.boxable,over,al,ae,ac,ai,V.plain,Nat.reduceLeDiff,cond_true,cond_false,implies_true,eq_self,ne_eq,reduceIte,reduceCtorEq,Nat.reduceBEq,Nat.reduceLT,Nat.reduceEqDiff,Nat.reduceAdd,Nat.reduceSub,Nat.reduceMul,hd];first|exact aj hb rfl rfl List.take_length ⟨rfl,rfl⟩|exact aj hb rfl rfl List.take_left ⟨rfl,rfl⟩|(trace_state;fail "fin")
theorem rY(e:Ex)(hl:e.args.length≤1200000)(σ:List (List V)):Fun G 114 [vex e] σ (aN (aB (dP e)) σ):=by
 refine aq Tryz.func114 EN (by simp only[aI];rfl) fun hb hw=>?_;unfold Dh;have hlen:decide (((e.args.length:Nat):Int)=0)=e.args.isEmpty:=by cases e.args<;>simp;omega
 unfold dP;simp -dsimp -implicitDefEqProofs only[aw,ah,V.copy,V.lend,V.lend1,V.cells,V.boxable,over,al,ae,ac,ai,V.plain,Nat.reduceLeDiff,cond_true,cond_false,implies_true,eq_self,ne_eq,reduceIte,reduceCtorEq,Nat.reduceBEq,Nat.reduceLT,Nat.reduceEqDiff,Nat.reduceAdd,Nat.reduceSub,Nat.reduceMul,aI,List.length_map,hlen];all_goals (repeat' (first|(refine bW (fun h1=>?_) (fun h1=>?_)<;>(simp -dsimp -implicitDefEqProofs only[aw,ah,V.copy,V.lend,V.lend1,V.cells,V.boxable,over,al,ae,ac,ai,V.plain,Nat.reduceLeDiff,cond_true,cond_false,implies_true,eq_self,ne_eq,reduceIte,reduceCtorEq,Nat.reduceBEq,Nat.reduceLT,Nat.reduceEqDiff,Nat.reduceAdd,Nat.reduceSub,Nat.reduceMul,h1,List.length_map,hlen];try rw[h1]))))
 all_goals first|exact aj hb rfl rfl List.take_length ⟨rfl,rfl⟩|exact aj hb rfl rfl List.take_left ⟨rfl,rfl⟩|(trace_state;fail "fin")
theorem fx{α:Type}(l:List α):decide (((l.length:Nat):Int)=0)=l.isEmpty:=by cases l<;>simp;omega
theorem p7{α β:Type}(l:List α)(m:List β):decide ((((l.length+m.length:Nat)):Int)=0)=(l.isEmpty&&m.isEmpty):=by cases l<;>cases m<;>simp<;>omega
abbrev ED(u:List Bool):V:=.agg (u.map aB)
def ic(k:Int):List Bool:=if k=1∨k=2 then[true,false,false,false,false,false,false]else if k=3 then[false,true,false,true,false,false,false]else if k=4 then[true,false,false,false,true,true,false]
 else if k=5 then[false,true,true,false,true,false,false]else[false,false,false,false,false,false,true]
set_option maxRecDepth 20000 in
set_option maxHeartbeats 4000000 in
theorem t7(x:It)(hbig:eJ x≤1200000)(hk:1≤x.kind∧x.kind≤6)(σ:List (List V)):Fun G 85 [vit x,ED (ic x.kind)] σ (aN (aB (bI x)) σ):=by
 have hb0:=bU x
 have h3:x.ex.args.length≤1200000:=by
  have h2:bD x.ex.args≤bh x.ex:=by cases x.ex;simp only[bh,Ex.args];omega
  have:=AY x.ex.args;omega
 have w1:IntKind.i64.wrap (((x.bef.length:Nat):Int)+((x.aft.length:Nat):Int))=((x.bef.length+x.aft.length:Nat):Int):=by rw[aS (by omega) (by omega)];omega
 have e1:=fx x.ws;have e2:=fx x.items;have e3:=fx x.els;have e4:=p7 x.bef x.aft;have hk6:x.kind=1∨x.kind=2∨x.kind=3∨x.kind=4∨x.kind=5∨x.kind=6:=by omega
 refine aq Tryz.func85 k85 (by simp only[aP];rfl) fun hb hw=>?_;unfold c85;have hbl:=fun σ=>rY x.ex h3 σ;simp only[aI]at hbl;rcases hk6 with hk|hk|hk|hk|hk|hk
 ·have hp:bI x=(decide (x.name=⟨#[]⟩)&&decide (x.idx=⟨#[]⟩)&&x.ws.isEmpty&&x.items.isEmpty&&x.els.isEmpty&&(x.bef.isEmpty&&x.aft.isEmpty)):=by unfold bI;simp[hk]
  have hu:ic x.kind=[true,false,false,false,false,false,false]:=by unfold ic;simp[hk]
  rw[hp,hu];simp -dsimp -implicitDefEqProofs only[aw,ah,V.copy,V.lend,V.lend1,V.cells,V.boxable,over,al,ae,ac,ai,V.plain,Nat.reduceLeDiff,cond_true,cond_false,implies_true,eq_self,ne_eq,reduceIte,reduceCtorEq,Nat.reduceBEq,Nat.reduceLT,Nat.reduceEqDiff,Nat.reduceAdd,Nat.reduceSub,Nat.reduceMul,aP,List.length_map,e1,e2,e3,e4,w1];all_goals (repeat' (first|(refine bW (fun h1=>?_) (fun h1=>?_)<;>(simp -dsimp -implicitDefEqProofs only[aw,ah,V.copy,V.lend,V.lend1,V.cells,V.boxable,over,al,ae,ac,ai,V.plain,Nat.reduceLeDiff,cond_true,cond_false,implies_true,eq_self,ne_eq,reduceIte,reduceCtorEq,Nat.reduceBEq,Nat.reduceLT,Nat.reduceEqDiff,Nat.reduceAdd,Nat.reduceSub,Nat.reduceMul,h1,List.length_map,e1,e2,e3,e4,w1];try rw[h1]))))
  all_goals first|exact aj hb rfl rfl List.take_length ⟨rfl,rfl⟩|exact aj hb rfl rfl List.take_left ⟨rfl,rfl⟩|(trace_state;fail "fin")
 ·have hp:bI x=(decide (x.name=⟨#[]⟩)&&decide (x.idx=⟨#[]⟩)&&x.ws.isEmpty&&x.items.isEmpty&&x.els.isEmpty&&(x.bef.isEmpty&&x.aft.isEmpty)):=by unfold bI;simp[hk]
  have hu:ic x.kind=[true,false,false,false,false,false,false]:=by unfold ic;simp[hk]
  rw[hp,hu];simp -dsimp -implicitDefEqProofs only[aw,ah,V.copy,V.lend,V.lend1,V.cells,V.boxable,over,al,ae,ac,ai,V.plain,Nat.reduceLeDiff,cond_true,cond_false,implies_true,eq_self,ne_eq,reduceIte,reduceCtorEq,Nat.reduceBEq,Nat.reduceLT,Nat.reduceEqDiff,Nat.reduceAdd,Nat.reduceSub,Nat.reduceMul,aP,List.length_map,e1,e2,e3,e4,w1];all_goals (repeat' (first|(refine bW (fun h1=>?_) (fun h1=>?_)<;>(simp -dsimp -implicitDefEqProofs only[aw,ah,V.copy,V.lend,V.lend1,V.cells,V.boxable,over,al,ae,ac,ai,V.plain,Nat.reduceLeDiff,cond_true,cond_false,implies_true,eq_self,ne_eq,reduceIte,reduceCtorEq,Nat.reduceBEq,Nat.reduceLT,Nat.reduceEqDiff,Nat.reduceAdd,Nat.reduceSub,Nat.reduceMul,h1,List.length_map,e1,e2,e3,e4,w1];try rw[h1]))))
  all_goals first|exact aj hb rfl rfl List.take_length ⟨rfl,rfl⟩|exact aj hb rfl rfl List.take_left ⟨rfl,rfl⟩|(trace_state;fail "fin")
 ·have hp:bI x=(dP x.ex&&decide (x.idx=⟨#[]⟩)&&x.items.isEmpty&&x.els.isEmpty&&(x.bef.isEmpty&&x.aft.isEmpty)):=by unfold bI;simp[hk]
  have hu:ic x.kind=[false,true,false,true,false,false,false]:=by unfold ic;simp[hk]
  rw[hp,hu];simp -dsimp -implicitDefEqProofs only[aw,ah,V.copy,V.lend,V.lend1,V.cells,V.boxable,over,al,ae,ac,ai,V.plain,Nat.reduceLeDiff,cond_true,cond_false,implies_true,eq_self,ne_eq,reduceIte,reduceCtorEq,Nat.reduceBEq,Nat.reduceLT,Nat.reduceEqDiff,Nat.reduceAdd,Nat.reduceSub,Nat.reduceMul,aP,List.length_map,e1,e2,e3,e4,w1];refine am (hbl _) ?_;simp -dsimp -implicitDefEqProofs only[aw,ah,V.copy,V.lend,V.lend1,V.cells,V.boxable,over,al,ae,ac,ai,V.plain,Nat.reduceLeDiff,cond_true,cond_false,implies_true,eq_self,ne_eq,reduceIte,reduceCtorEq,Nat.reduceBEq,Nat.reduceLT,Nat.reduceEqDiff,Nat.reduceAdd,Nat.reduceSub,Nat.reduceMul,aP,List.length_map,e1,e2,e3,e4,w1]
  all_goals (repeat' (first|(refine bW (fun h1=>?_) (fun h1=>?_)<;>(simp -dsimp -implicitDefEqProofs only[aw,ah,V.copy,V.lend,V.lend1,V.cells,V.boxable,over,al,ae,ac,ai,V.plain,Nat.reduceLeDiff,cond_true,cond_false,implies_true,eq_self,ne_eq,reduceIte,reduceCtorEq,Nat.reduceBEq,Nat.reduceLT,Nat.reduceEqDiff,Nat.reduceAdd,Nat.reduceSub,Nat.reduceMul,h1,List.length_map,e1,e2,e3,e4,w1];try rw[h1]))))
  all_goals first|exact aj hb rfl rfl List.take_length ⟨rfl,rfl⟩|exact aj hb rfl rfl List.take_left ⟨rfl,rfl⟩|(trace_state;fail "fin")
 ·have hp:bI x=(decide (x.name=⟨#[]⟩)&&decide (x.idx=⟨#[]⟩)&&x.ws.isEmpty&&(x.bef.isEmpty&&x.aft.isEmpty)):=by unfold bI;simp[hk]
  have hu:ic x.kind=[true,false,false,false,true,true,false]:=by unfold ic;simp[hk]
  rw[hp,hu];simp -dsimp -implicitDefEqProofs only[aw,ah,V.copy,V.lend,V.lend1,V.cells,V.boxable,over,al,ae,ac,ai,V.plain,Nat.reduceLeDiff,cond_true,cond_false,implies_true,eq_self,ne_eq,reduceIte,reduceCtorEq,Nat.reduceBEq,Nat.reduceLT,Nat.reduceEqDiff,Nat.reduceAdd,Nat.reduceSub,Nat.reduceMul,aP,List.length_map,e1,e2,e3,e4,w1];all_goals (repeat' (first|(refine bW (fun h1=>?_) (fun h1=>?_)<;>(simp -dsimp -implicitDefEqProofs only[aw,ah,V.copy,V.lend,V.lend1,V.cells,V.boxable,over,al,ae,ac,ai,V.plain,Nat.reduceLeDiff,cond_true,cond_false,implies_true,eq_self,ne_eq,reduceIte,reduceCtorEq,Nat.reduceBEq,Nat.reduceLT,Nat.reduceEqDiff,Nat.reduceAdd,Nat.reduceSub,Nat.reduceMul,h1,List.length_map,e1,e2,e3,e4,w1];try rw[h1]))))
  all_goals first|exact aj hb rfl rfl List.take_length ⟨rfl,rfl⟩|exact aj hb rfl rfl List.take_left ⟨rfl,rfl⟩|(trace_state;fail "fin")
 ·have hp:bI x=(dP x.ex&&x.ws.isEmpty&&x.els.isEmpty&&(x.bef.isEmpty&&x.aft.isEmpty)):=by unfold bI;simp[hk]
  have hu:ic x.kind=[false,true,true,false,true,false,false]:=by unfold ic;simp[hk]
  rw[hp,hu];simp -dsimp -implicitDefEqProofs only[aw,ah,V.copy,V.lend,V.lend1,V.cells,V.boxable,over,al,ae,ac,ai,V.plain,Nat.reduceLeDiff,cond_true,cond_false,implies_true,eq_self,ne_eq,reduceIte,reduceCtorEq,Nat.reduceBEq,Nat.reduceLT,Nat.reduceEqDiff,Nat.reduceAdd,Nat.reduceSub,Nat.reduceMul,aP,List.length_map,e1,e2,e3,e4,w1];refine am (hbl _) ?_;simp -dsimp -implicitDefEqProofs only[aw,ah,V.copy,V.lend,V.lend1,V.cells,V.boxable,over,al,ae,ac,ai,V.plain,Nat.reduceLeDiff,cond_true,cond_false,implies_true,eq_self,ne_eq,reduceIte,reduceCtorEq,Nat.reduceBEq,Nat.reduceLT,Nat.reduceEqDiff,Nat.reduceAdd,Nat.reduceSub,Nat.reduceMul,aP,List.length_map,e1,e2,e3,e4,w1]
  all_goals (repeat' (first|(refine bW (fun h1=>?_) (fun h1=>?_)<;>(simp -dsimp -implicitDefEqProofs only[aw,ah,V.copy,V.lend,V.lend1,V.cells,V.boxable,over,al,ae,ac,ai,V.plain,Nat.reduceLeDiff,cond_true,cond_false,implies_true,eq_self,ne_eq,reduceIte,reduceCtorEq,Nat.reduceBEq,Nat.reduceLT,Nat.reduceEqDiff,Nat.reduceAdd,Nat.reduceSub,Nat.reduceMul,h1,List.length_map,e1,e2,e3,e4,w1];try rw[h1]))))
  all_goals first|exact aj hb rfl rfl List.take_length ⟨rfl,rfl⟩|exact aj hb rfl rfl List.take_left ⟨rfl,rfl⟩|(trace_state;fail "fin")
 ·have hp:bI x=(dP x.ex&&decide (x.name=⟨#[]⟩)&&decide (x.idx=⟨#[]⟩)&&x.ws.isEmpty&&x.items.isEmpty&&x.els.isEmpty):=by unfold bI;simp[hk]
  have hu:ic x.kind=[false,false,false,false,false,false,true]:=by unfold ic;simp[hk]
  rw[hp,hu];simp -dsimp -implicitDefEqProofs only[aw,ah,V.copy,V.lend,V.lend1,V.cells,V.boxable,over,al,ae,ac,ai,V.plain,Nat.reduceLeDiff,cond_true,cond_false,implies_true,eq_self,ne_eq,reduceIte,reduceCtorEq,Nat.reduceBEq,Nat.reduceLT,Nat.reduceEqDiff,Nat.reduceAdd,Nat.reduceSub,Nat.reduceMul,aP,List.length_map,e1,e2,e3,e4,w1];refine am (hbl _) ?_;simp -dsimp -implicitDefEqProofs only[aw,ah,V.copy,V.lend,V.lend1,V.cells,V.boxable,over,al,ae,ac,ai,V.plain,Nat.reduceLeDiff,cond_true,cond_false,implies_true,eq_self,ne_eq,reduceIte,reduceCtorEq,Nat.reduceBEq,Nat.reduceLT,Nat.reduceEqDiff,Nat.reduceAdd,Nat.reduceSub,Nat.reduceMul,aP,List.length_map,e1,e2,e3,e4,w1]
  all_goals (repeat' (first|(refine bW (fun h1=>?_) (fun h1=>?_)<;>(simp -dsimp -implicitDefEqProofs only[aw,ah,V.copy,V.lend,V.lend1,V.cells,V.boxable,over,al,ae,ac,ai,V.plain,Nat.reduceLeDiff,cond_true,cond_false,implies_true,eq_self,ne_eq,reduceIte,reduceCtorEq,Nat.reduceBEq,Nat.reduceLT,Nat.reduceEqDiff,Nat.reduceAdd,Nat.reduceSub,Nat.reduceMul,h1,List.length_map,e1,e2,e3,e4,w1];try rw[h1]))))
  all_goals first|exact aj hb rfl rfl List.take_length ⟨rfl,rfl⟩|exact aj hb rfl rfl List.take_left ⟨rfl,rfl⟩|(trace_state;fail "fin")
def wE(ws:List Wt):Int:=if ws.length>16 then 2 else if ws=[]then 1 else if ws.all wtB=false then 1 else 0
theorem pB(ws:List Wt)(hl:ws.length≤1200000)(σ:List (List V)):Fun G 86 [.d (.sl (ws.map dwt))] σ (aN (.d (ay (wE ws))) σ):=by
 refine aq Tryz.func86 k86 rfl fun hb hw=>?_;unfold c86 wE;by_cases h1:ws.length>16
 ·have h1':((16:Int)<((ws.length:Nat):Int)):=by omega
  rw[if_pos h1];simp -dsimp -implicitDefEqProofs only[aw,ah,V.copy,V.lend,V.lend1,V.cells,V.boxable,over,al,ae,ac,ai,V.plain,Nat.reduceLeDiff,cond_true,cond_false,implies_true,eq_self,ne_eq,reduceIte,reduceCtorEq,Nat.reduceBEq,Nat.reduceLT,Nat.reduceEqDiff,Nat.reduceAdd,Nat.reduceSub,Nat.reduceMul,List.length_map,decide_eq_true h1'];first|exact aj hb rfl rfl List.take_length ⟨rfl,rfl⟩|exact aj hb rfl rfl List.take_left ⟨rfl,rfl⟩|(trace_state;fail "fin")
 ·have h1':¬((16:Int)<((ws.length:Nat):Int)):=by omega
  rw[if_neg h1];by_cases h2:ws=[]
  ·rw[if_pos h2];subst h2;simp -dsimp -implicitDefEqProofs only[aw,ah,V.copy,V.lend,V.lend1,V.cells,V.boxable,over,al,ae,ac,ai,V.plain,Nat.reduceLeDiff,cond_true,cond_false,implies_true,eq_self,ne_eq,reduceIte,reduceCtorEq,Nat.reduceBEq,Nat.reduceLT,Nat.reduceEqDiff,Nat.reduceAdd,Nat.reduceSub,Nat.reduceMul,List.length_map,decide_false,Int.reduceEq,decide_true,Int.ofNat_zero,Int.reduceLT];first|exact aj hb rfl rfl List.take_length ⟨rfl,rfl⟩|exact aj hb rfl rfl List.take_left ⟨rfl,rfl⟩|(trace_state;fail "fin")
  ·rw[if_neg h2];have h2':¬(((ws.length:Nat):Int)=0):=by have:=List.length_pos_iff.2 h2;omega
   simp -dsimp -implicitDefEqProofs only[aw,ah,V.copy,V.lend,V.lend1,V.cells,V.boxable,over,al,ae,ac,ai,V.plain,Nat.reduceLeDiff,cond_true,cond_false,implies_true,eq_self,ne_eq,reduceIte,reduceCtorEq,Nat.reduceBEq,Nat.reduceLT,Nat.reduceEqDiff,Nat.reduceAdd,Nat.reduceSub,Nat.reduceMul,List.length_map,decide_eq_false h1',decide_eq_false h2'];refine aT [13,14,15] (fun(j:Nat) ρ σ'=>ρ=[(13,.d (.sl (ws.map dwt))),(14,aK .i64 ws.length),(15,aK .i64 j)]∧σ'=σ∧ws.all wtB=(ws.drop j).all wtB) ws.length ⟨rfl,rfl,rfl⟩ ?_ _;rintro j ρ' σ' hj ⟨rfl,rfl,hr⟩;by_cases hlt:j<ws.length
   ·rw[List.drop_eq_getElem_cons hlt,List.all_cons]at hr;have hd:dwt ws[j]=[ay ws[j].lo,ay ws[j].hi,ay ws[j].w,dbl ws[j].each]:=rfl;have hwt:wtB ws[j]=(!decide (ws[j].lo<0) && !decide (ws[j].hi<ws[j].lo) && !decide (65535<ws[j].hi) && !decide (ws[j].w<0) && !decide (1000<ws[j].w)):=by unfold wtB;rw[Bool.eq_iff_iff];simp
    rw[hwt]at hr;simp -dsimp -implicitDefEqProofs only[aw,ah,V.copy,V.lend,V.lend1,V.cells,V.boxable,over,al,ae,ac,ai,V.plain,Nat.reduceLeDiff,cond_true,cond_false,implies_true,eq_self,ne_eq,reduceIte,reduceCtorEq,Nat.reduceBEq,Nat.reduceLT,Nat.reduceEqDiff,Nat.reduceAdd,Nat.reduceSub,Nat.reduceMul,Int.ofNat_lt,hlt,decide_true,List.getElem?_eq_getElem hlt,hd,aJ hlt (show ws.length≤9223372036854775807 by omega)];all_goals (repeat' (first|(refine bW (fun h1=>?_) (fun h1=>?_)<;>(simp -dsimp -implicitDefEqProofs only[aw,ah,V.copy,V.lend,V.lend1,V.cells,V.boxable,over,al,ae,ac,ai,V.plain,Nat.reduceLeDiff,cond_true,cond_false,implies_true,eq_self,ne_eq,reduceIte,reduceCtorEq,Nat.reduceBEq,Nat.reduceLT,Nat.reduceEqDiff,Nat.reduceAdd,Nat.reduceSub,Nat.reduceMul,h1,aJ hlt (show ws.length≤9223372036854775807 by omega)];try rw[h1]))))
    all_goals first|exact aj hb rfl rfl List.take_left ⟨by rw[hr];simp only[*,Bool.not_true,Bool.not_false,Bool.and_false,Bool.false_and,Bool.true_and,if_true];rfl,rfl⟩|exact⟨hlt,Nxt.drop (Nat.le_refl _) hb rfl ⟨rfl,rfl,by rw[hr];simp only[*,Bool.not_true,Bool.not_false,Bool.and_false,Bool.false_and,Bool.true_and]⟩⟩|(trace_state;fail)
   ·simp -dsimp -implicitDefEqProofs only[aw,ah,V.copy,V.lend,V.lend1,V.cells,V.boxable,over,al,ae,ac,ai,V.plain,Nat.reduceLeDiff,cond_true,cond_false,implies_true,eq_self,ne_eq,reduceIte,reduceCtorEq,Nat.reduceBEq,Nat.reduceLT,Nat.reduceEqDiff,Nat.reduceAdd,Nat.reduceSub,Nat.reduceMul,Int.ofNat_lt,hlt,decide_false];rw[List.drop_eq_nil_of_le (by omega)]at hr;rw[hr];first|exact aj hb rfl rfl List.take_length ⟨rfl,rfl⟩|exact aj hb rfl rfl List.take_left ⟨rfl,rfl⟩|(trace_state;fail "fin")
end Go.Proofs.YtcbahpllcfbkmaaGreatDoor
