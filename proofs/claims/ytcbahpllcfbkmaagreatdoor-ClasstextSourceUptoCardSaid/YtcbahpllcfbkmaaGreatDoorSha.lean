import Derived.Test.YtcbahpllcfbkmaaGreatDoorK3
import Derived.Test.YtcbahpllcfbkmaaGreatDoorRaw
import Derived.Test.YtcbahpllcfbkmaaGreatDoorIw1
import Derived.Test.YtcbahpllcfbkmaaGreatDoorIt1
set_option linter.unusedVariables false
set_option linter.unusedSimpArgs false
set_option linter.unusedSectionVars false
namespace Go.Proofs.YtcbahpllcfbkmaaGreatDoor
open Go.RowKit
abbrev vu7(u:List Bool):V:=.agg (u.map aB)
def kvK:List (Key×V):=[(.i 1,vu7 [true,false,false,false,false,false,false]),(.i 2,vu7 [true,false,false,false,false,false,false]),(.i 3,vu7 [false,true,false,true,false,false,false]),
 (.i 4,vu7 [true,false,false,false,true,true,false]),(.i 5,vu7 [false,true,true,false,true,false,false]),(.i 6,vu7 [false,false,false,false,false,false,true])]
theorem mT(σ:List (List V)):Fun G 84 [] σ (fun o σ'=>o=.ret (.mp σ.length)∧σ'=σ++[[.mapc false kvK]]):=by
 refine aq Tryz.func84 k84 rfl fun hb hw=>?_;unfold c84;simp -dsimp -implicitDefEqProofs only[aw,ah,V.copy,V.lend,V.lend1,V.cells,V.boxable,over,al,ae,ac,ai,V.plain,Nat.reduceLeDiff,cond_true,cond_false,implies_true,eq_self,ne_eq,reduceIte,reduceCtorEq,Nat.reduceBEq,Nat.reduceLT,Nat.reduceEqDiff,Nat.reduceAdd,Nat.reduceSub,Nat.reduceMul];exact⟨_,_,.refl _ _ _,.mp σ.length,rfl,(σ++[[V.mapc false kvK]]).length,by simp,by show aC _ (List.take _ (σ++[[V.mapc false kvK]]))=true;rw[List.take_length];exact aV hb rfl,by simp[V.under],by show Out.ret _=_∧List.take _ (σ++[[V.mapc false kvK]])=_;rw[List.take_length];exact⟨rfl,rfl⟩⟩
theorem oY(k:Int):lF true (.agg F7) (fM (.i k) kvK)=.tup [.agg ((if 1≤k∧k≤6 then ic k else[false,false,false,false,false,false,false]).map aB),aB (decide (1≤k∧k≤6))]:=by
 by_cases h:1≤k∧k≤6
 ·rw[if_pos h,decide_eq_true h];have h6:k=1∨k=2∨k=3∨k=4∨k=5∨k=6:=by omega
  rcases h6 with rfl|rfl|rfl|rfl|rfl|rfl<;>rfl
 ·rw[if_neg h,decide_eq_false h]
  have:fM (.i k) kvK=none:=by
   have n1:¬k=1:=by omega
   have n2:¬k=2:=by omega
   have n3:¬k=3:=by omega
   have n4:¬k=4:=by omega
   have n5:¬k=5:=by omega
   have n6:¬k=6:=by omega
   simp[fM,kvK,n1,n2,n3,n4,n5,n6,Ne.symm n1,Ne.symm n2,Ne.symm n3,Ne.symm n4,Ne.symm n5,Ne.symm n6]
  rw[this];rfl
theorem mz(l:List ByteArray){j:Nat}(h:j<l.length):(l.drop j).all bc=(bc l[j]&&(l.drop (j+1)).all bc):=by rw[List.drop_eq_getElem_cons h,List.all_cons]
theorem z6{C:Cx}{n0:Nat}{l:List O}{es:List (List Nat)}{keep:List Nat}{ρ:an}{σ:List (List V)}{Q:df}{t:Tag Q}(h:rA C n0 l es ρ σ fun e ρ' σ'=>Q e (aX keep ρ') σ'):ep C n0 (.raw l es keep) ρ σ Q t:=h
theorem zb(k:Int):∃b1 b2 b3 b4 b5 b6 b7,ic k=[b1,b2,b3,b4,b5,b6,b7]:=by
 unfold ic;repeat' split
 all_goals exact⟨_,_,_,_,_,_,_,rfl⟩
theorem xL(x:It):fp x=if wE x.ws≠0 then wE x.ws else if bc x.name=true then 0 else 7:=by
 unfold fp wE;repeat' split
 all_goals simp_all
set_option maxHeartbeats 4000000 in
theorem tu(x:It)(d:Nat)(bd:List ByteArray)(hbig:eJ x≤1200000)(σ:List (List V)):Fun G 58 [vit x,ua d bd] σ (aN (.d (ay (aZ x d))) σ):=by
 have hb0:=bU x;refine aq Tryz.func58 k58 (by simp only[aP];rfl) fun hb hw=>?_;unfold c58;simp -dsimp -implicitDefEqProofs only[aw,ah,V.copy,V.lend,V.lend1,V.cells,V.boxable,over,al,ae,ac,ai,V.plain,Nat.reduceLeDiff,cond_true,cond_false,implies_true,eq_self,ne_eq,reduceIte,reduceCtorEq,Nat.reduceBEq,Nat.reduceLT,Nat.reduceEqDiff,Nat.reduceAdd,Nat.reduceSub,Nat.reduceMul,aP];by_cases hk:1≤x.kind∧x.kind≤6
 case neg=>
  have hm:=oY x.kind;rw[if_neg hk,decide_eq_false hk]at hm;have hs:aZ x d=1:=by unfold aZ;rw[if_pos (.inl hk)]
  rw[hs];refine z6 (kD (bx:=σ.length) (kd:=x.kind) (by simp) mT rfl (by rw[List.getElem?_append_right (Nat.le_refl _),Nat.sub_self];rfl) rfl hm (aV hb rfl) (by simp[get,V.under]) ?_);simp -dsimp -implicitDefEqProofs only[aw,ah,V.copy,V.lend,V.lend1,V.cells,V.boxable,over,al,ae,ac,ai,V.plain,Nat.reduceLeDiff,cond_true,cond_false,implies_true,eq_self,ne_eq,reduceIte,reduceCtorEq,Nat.reduceBEq,Nat.reduceLT,Nat.reduceEqDiff,Nat.reduceAdd,Nat.reduceSub,Nat.reduceMul];first|exact aj hb rfl rfl List.take_length ⟨rfl,rfl⟩|exact aj hb rfl rfl List.take_left ⟨rfl,rfl⟩|(trace_state;fail "fin")
 have hm:=oY x.kind;rw[if_pos hk,decide_eq_true hk]at hm;have hpl:=fun σ=>t7 x hbig hk σ;obtain⟨b1,b2,b3,b4,b5,b6,b7,hu⟩:=zb x.kind;rw[hu]at hm hpl;simp only[aP,List.map_cons,List.map_nil]at hpl;refine z6 (kD (bx:=σ.length) (kd:=x.kind) (by simp) mT rfl (by rw[List.getElem?_append_right (Nat.le_refl _),Nat.sub_self];rfl) rfl hm (aV hb rfl) (by simp[get,V.under]) ?_);simp -dsimp -implicitDefEqProofs only[aw,ah,V.copy,V.lend,V.lend1,V.cells,V.boxable,over,al,ae,ac,ai,V.plain,Nat.reduceLeDiff,cond_true,cond_false,implies_true,eq_self,ne_eq,reduceIte,reduceCtorEq,Nat.reduceBEq,Nat.reduceLT,Nat.reduceEqDiff,Nat.reduceAdd,Nat.reduceSub,Nat.reduceMul];refine am (hpl _) ?_;cases hp:bI x with
 | false=>
  have hs:aZ x d=1:=by unfold aZ;rw[if_pos (.inr (.inl hp))]
  rw[hs];simp -dsimp -implicitDefEqProofs only[aw,ah,V.copy,V.lend,V.lend1,V.cells,V.boxable,over,al,ae,ac,ai,V.plain,Nat.reduceLeDiff,cond_true,cond_false,implies_true,eq_self,ne_eq,reduceIte,reduceCtorEq,Nat.reduceBEq,Nat.reduceLT,Nat.reduceEqDiff,Nat.reduceAdd,Nat.reduceSub,Nat.reduceMul];first|exact aj hb rfl rfl List.take_length ⟨rfl,rfl⟩|exact aj hb rfl rfl List.take_left ⟨rfl,rfl⟩|(trace_state;fail "fin")
 | true=>
 by_cases h4:4<d
 ·have hs:aZ x d=1:=by unfold aZ;rw[if_pos (.inr (.inr (.inl h4)))]
  have h4':(4:Int)<(d:Int):=by omega
  rw[hs];simp -dsimp -implicitDefEqProofs only[aw,ah,V.copy,V.lend,V.lend1,V.cells,V.boxable,over,al,ae,ac,ai,V.plain,Nat.reduceLeDiff,cond_true,cond_false,implies_true,eq_self,ne_eq,reduceIte,reduceCtorEq,Nat.reduceBEq,Nat.reduceLT,Nat.reduceEqDiff,Nat.reduceAdd,Nat.reduceSub,Nat.reduceMul,decide_eq_true h4'];first|exact aj hb rfl rfl List.take_length ⟨rfl,rfl⟩|exact aj hb rfl rfl List.take_left ⟨rfl,rfl⟩|(trace_state;fail "fin")
 have h4':¬(4:Int)<(d:Int):=by omega
 by_cases hd:0<d∧(x.kind=3∨x.kind=6)
 ·have hs:aZ x d=1:=by unfold aZ;rw[if_pos (.inr (.inr (.inr hd)))]
  have h0:(0:Int)<(d:Int):=by omega
  rw[hs];rcases hd.2 with k|k
  all_goals
   simp -dsimp -implicitDefEqProofs only[aw,ah,V.copy,V.lend,V.lend1,V.cells,V.boxable,over,al,ae,ac,ai,V.plain,Nat.reduceLeDiff,cond_true,cond_false,implies_true,eq_self,ne_eq,reduceIte,reduceCtorEq,Nat.reduceBEq,Nat.reduceLT,Nat.reduceEqDiff,Nat.reduceAdd,Nat.reduceSub,Nat.reduceMul,decide_eq_false h4',decide_eq_true h0,k,Int.reduceEq,decide_true,decide_false];first|exact aj hb rfl rfl List.take_length ⟨rfl,rfl⟩|exact aj hb rfl rfl List.take_left ⟨rfl,rfl⟩|(trace_state;fail "fin")
 have hs:aZ x d=if x.kind=3 then fp x else if x.kind=6 then gq x else if x.kind=5 then kV x else bB x.ex:=by
  unfold aZ;rw[if_neg];rintro(h|h|h|h)
  ·exact h hk
  ·rw[hp]at h;cases h
  ·exact h4 h
  ·exact hd h
 rw[hs];have hv:=fun σ=>jB x.ex (by omega) (by have:=ja x.ex;omega) σ;simp only[aI]at hv;by_cases k3:x.kind=3
 ·have h0:¬(0:Int)<(d:Int):=by have:¬0<d:=fun h=>hd ⟨h,.inl k3⟩;omega
  rw[if_pos k3,xL];simp -dsimp -implicitDefEqProofs only[aw,ah,V.copy,V.lend,V.lend1,V.cells,V.boxable,over,al,ae,ac,ai,V.plain,Nat.reduceLeDiff,cond_true,cond_false,implies_true,eq_self,ne_eq,reduceIte,reduceCtorEq,Nat.reduceBEq,Nat.reduceLT,Nat.reduceEqDiff,Nat.reduceAdd,Nat.reduceSub,Nat.reduceMul,decide_eq_false h4',decide_eq_false h0,k3,Int.reduceEq,decide_true,decide_false];refine am (pB x.ws (by omega) _) ?_;by_cases hw0:wE x.ws=0
  ·rw[if_neg (by simp[hw0])];simp -dsimp -implicitDefEqProofs only[aw,ah,V.copy,V.lend,V.lend1,V.cells,V.boxable,over,al,ae,ac,ai,V.plain,Nat.reduceLeDiff,cond_true,cond_false,implies_true,eq_self,ne_eq,reduceIte,reduceCtorEq,Nat.reduceBEq,Nat.reduceLT,Nat.reduceEqDiff,Nat.reduceAdd,Nat.reduceSub,Nat.reduceMul,hw0,decide_true];refine am (mV x.name _) ?_;cases hi:bc x.name with
   | true=>simp -dsimp -implicitDefEqProofs only[aw,ah,V.copy,V.lend,V.lend1,V.cells,V.boxable,over,al,ae,ac,ai,V.plain,Nat.reduceLeDiff,cond_true,cond_false,implies_true,eq_self,ne_eq,reduceIte,reduceCtorEq,Nat.reduceBEq,Nat.reduceLT,Nat.reduceEqDiff,Nat.reduceAdd,Nat.reduceSub,Nat.reduceMul,Int.reduceEq,decide_false]
           first|exact aj hb rfl rfl List.take_length ⟨rfl,rfl⟩|exact aj hb rfl rfl List.take_left ⟨rfl,rfl⟩|(trace_state;fail "fin")
   | false=>simp -dsimp -implicitDefEqProofs only[aw,ah,V.copy,V.lend,V.lend1,V.cells,V.boxable,over,al,ae,ac,ai,V.plain,Nat.reduceLeDiff,cond_true,cond_false,implies_true,eq_self,ne_eq,reduceIte,reduceCtorEq,Nat.reduceBEq,Nat.reduceLT,Nat.reduceEqDiff,Nat.reduceAdd,Nat.reduceSub,Nat.reduceMul,Int.reduceEq,decide_false]
            first|exact aj hb rfl rfl List.take_length ⟨rfl,rfl⟩|exact aj hb rfl rfl List.take_left ⟨rfl,rfl⟩|(trace_state;fail "fin")
  ·rw[if_pos hw0];simp -dsimp -implicitDefEqProofs only[aw,ah,V.copy,V.lend,V.lend1,V.cells,V.boxable,over,al,ae,ac,ai,V.plain,Nat.reduceLeDiff,cond_true,cond_false,implies_true,eq_self,ne_eq,reduceIte,reduceCtorEq,Nat.reduceBEq,Nat.reduceLT,Nat.reduceEqDiff,Nat.reduceAdd,Nat.reduceSub,Nat.reduceMul,decide_eq_false hw0];first|exact aj hb rfl rfl List.take_length ⟨rfl,rfl⟩|exact aj hb rfl rfl List.take_left ⟨rfl,rfl⟩|(trace_state;fail "fin")
 by_cases k6:x.kind=6
 ·have h0:¬(0:Int)<(d:Int):=by have:¬0<d:=fun h=>hd ⟨h,.inr k6⟩;omega
  rw[if_neg k3,if_pos k6];unfold gq;by_cases hB:x.bef=[]
  ·have e:decide (((x.bef.length:Nat):Int)=0)=true:=by simp[hB]
   rw[if_pos (.inl hB)];simp -dsimp -implicitDefEqProofs only[aw,ah,V.copy,V.lend,V.lend1,V.cells,V.boxable,over,al,ae,ac,ai,V.plain,Nat.reduceLeDiff,cond_true,cond_false,implies_true,eq_self,ne_eq,reduceIte,reduceCtorEq,Nat.reduceBEq,Nat.reduceLT,Nat.reduceEqDiff,Nat.reduceAdd,Nat.reduceSub,Nat.reduceMul,decide_eq_false h4',decide_eq_false h0,k6,Int.reduceEq,decide_true,decide_false,List.length_map,e];first|exact aj hb rfl rfl List.take_length ⟨rfl,rfl⟩|exact aj hb rfl rfl List.take_left ⟨rfl,rfl⟩|(trace_state;fail "fin")
  have eB:decide (((x.bef.length:Nat):Int)=0)=false:=by have:=List.length_pos_iff.2 hB;simp;omega
  by_cases hA:x.aft=[]
  ·have e:decide (((x.aft.length:Nat):Int)=0)=true:=by simp[hA]
   rw[if_pos (.inr hA)];simp -dsimp -implicitDefEqProofs only[aw,ah,V.copy,V.lend,V.lend1,V.cells,V.boxable,over,al,ae,ac,ai,V.plain,Nat.reduceLeDiff,cond_true,cond_false,implies_true,eq_self,ne_eq,reduceIte,reduceCtorEq,Nat.reduceBEq,Nat.reduceLT,Nat.reduceEqDiff,Nat.reduceAdd,Nat.reduceSub,Nat.reduceMul,decide_eq_false h4',decide_eq_false h0,k6,Int.reduceEq,decide_true,decide_false,List.length_map,eB,e];first|exact aj hb rfl rfl List.take_length ⟨rfl,rfl⟩|exact aj hb rfl rfl List.take_left ⟨rfl,rfl⟩|(trace_state;fail "fin")
  have eA:decide (((x.aft.length:Nat):Int)=0)=false:=by have:=List.length_pos_iff.2 hA;simp;omega
  rw[if_neg (fun h=>h.elim hB hA)];simp -dsimp -implicitDefEqProofs only[aw,ah,V.copy,V.lend,V.lend1,V.cells,V.boxable,over,al,ae,ac,ai,V.plain,Nat.reduceLeDiff,cond_true,cond_false,implies_true,eq_self,ne_eq,reduceIte,reduceCtorEq,Nat.reduceBEq,Nat.reduceLT,Nat.reduceEqDiff,Nat.reduceAdd,Nat.reduceSub,Nat.reduceMul,decide_eq_false h4',decide_eq_false h0,k6,Int.reduceEq,decide_true,decide_false,List.length_map,eB,eA];have hcc:=fun σ=>qQ [x.bef,x.aft] (by simp;omega) (by simp) σ;have e2:[x.bef,x.aft].flatten=x.bef++x.aft:=by simp
  rw[e2]at hcc;simp only[List.map_cons,List.map_nil]at hcc;refine am (hcc _) ?_;have hL:(x.bef++x.aft).length≤1200000:=by rw[List.length_append];omega
  generalize x.bef++x.aft=L at hL;simp -dsimp -implicitDefEqProofs only[aw,ah,V.copy,V.lend,V.lend1,V.cells,V.boxable,over,al,ae,ac,ai,V.plain,Nat.reduceLeDiff,cond_true,cond_false,implies_true,eq_self,ne_eq,reduceIte,reduceCtorEq,Nat.reduceBEq,Nat.reduceLT,Nat.reduceEqDiff,Nat.reduceAdd,Nat.reduceSub,Nat.reduceMul,List.length_map]
  refine aT [79,80,81] (R:=fun(j:Nat) ρ σ'=>ρ=[(79,.own 9 1 (L.map fun s=>[ak s])),(80,aK .i64 L.length),(81,aK .i64 j)]∧L.all bc=(L.drop j).all bc∧
   σ'=σ++[[.d (ay 6),.d (ay x.ex.op),.d (ay x.ex.num),.d (ak x.ex.name),.d (.sl (x.ex.args.map dex)),.d (ak x.name),.d (ak x.idx),.d (.sl (x.ws.map dwt)),.d (.sl (x.items.map dit)),.d (.sl (x.els.map dit)),.d (.sl (x.bef.map fun s=>[ak s])),.d (.sl (x.aft.map fun s=>[ak s]))],[.d (ay d),.d (.sl (bd.map fun s=>[ak s]))],[aB b1,aB b2,aB b3,aB b4,aB b5,aB b6,aB b7]]) L.length ⟨rfl,rfl,rfl⟩ ?_ _
  rintro j ρ' σ' hj ⟨rfl,hr,rfl⟩;by_cases hlt:j<L.length
  ·rw[mz L hlt]at hr;simp -dsimp -implicitDefEqProofs only[aw,ah,V.copy,V.lend,V.lend1,V.cells,V.boxable,over,al,ae,ac,ai,V.plain,Nat.reduceLeDiff,cond_true,cond_false,implies_true,eq_self,ne_eq,reduceIte,reduceCtorEq,Nat.reduceBEq,Nat.reduceLT,Nat.reduceEqDiff,Nat.reduceAdd,Nat.reduceSub,Nat.reduceMul,Int.ofNat_lt,hlt,decide_true,List.getElem?_eq_getElem hlt,aJ hlt (show L.length≤9223372036854775807 by omega)];refine am (mV L[j] _) ?_;cases hi:bc L[j]with
   | true=>
    simp -dsimp -implicitDefEqProofs only[aw,ah,V.copy,V.lend,V.lend1,V.cells,V.boxable,over,al,ae,ac,ai,V.plain,Nat.reduceLeDiff,cond_true,cond_false,implies_true,eq_self,ne_eq,reduceIte,reduceCtorEq,Nat.reduceBEq,Nat.reduceLT,Nat.reduceEqDiff,Nat.reduceAdd,Nat.reduceSub,Nat.reduceMul,aJ hlt (show L.length≤9223372036854775807 by omega)];exact⟨hlt,Nxt.same (by simp) (aV hb rfl) (by simp[au,V.under]) ⟨rfl,by rw[hr,hi,Bool.true_and],rfl⟩⟩
   | false=>
    rw[hr,hi,Bool.false_and,if_neg Bool.false_ne_true];simp -dsimp -implicitDefEqProofs only[aw,ah,V.copy,V.lend,V.lend1,V.cells,V.boxable,over,al,ae,ac,ai,V.plain,Nat.reduceLeDiff,cond_true,cond_false,implies_true,eq_self,ne_eq,reduceIte,reduceCtorEq,Nat.reduceBEq,Nat.reduceLT,Nat.reduceEqDiff,Nat.reduceAdd,Nat.reduceSub,Nat.reduceMul];first|exact aj hb rfl rfl List.take_length ⟨rfl,rfl⟩|exact aj hb rfl rfl List.take_left ⟨rfl,rfl⟩|(trace_state;fail "fin")
  ·rw[List.drop_eq_nil_of_le (by omega)]at hr;rw[hr,List.all_nil,if_pos rfl];simp -dsimp -implicitDefEqProofs only[aw,ah,V.copy,V.lend,V.lend1,V.cells,V.boxable,over,al,ae,ac,ai,V.plain,Nat.reduceLeDiff,cond_true,cond_false,implies_true,eq_self,ne_eq,reduceIte,reduceCtorEq,Nat.reduceBEq,Nat.reduceLT,Nat.reduceEqDiff,Nat.reduceAdd,Nat.reduceSub,Nat.reduceMul,Int.ofNat_lt,hlt,decide_false];first|exact aj hb rfl rfl List.take_length ⟨rfl,rfl⟩|exact aj hb rfl rfl List.take_left ⟨rfl,rfl⟩|(trace_state;fail "fin")
 rw[if_neg k3,if_neg k6];by_cases k5:x.kind=5
 ·rw[if_pos k5];unfold kV;by_cases h0:(0:Int)<(d:Int)
  all_goals
   simp -dsimp -implicitDefEqProofs only[aw,ah,V.copy,V.lend,V.lend1,V.cells,V.boxable,over,al,ae,ac,ai,V.plain,Nat.reduceLeDiff,cond_true,cond_false,implies_true,eq_self,ne_eq,reduceIte,reduceCtorEq,Nat.reduceBEq,Nat.reduceLT,Nat.reduceEqDiff,Nat.reduceAdd,Nat.reduceSub,Nat.reduceMul,decide_eq_false h4',h0,k5,Int.reduceEq,decide_true,decide_false];refine am (dl x.name _) ?_;cases hn:aQ x.name with
   | false=>
    rw[if_neg (by simp)];simp -dsimp -implicitDefEqProofs only[aw,ah,V.copy,V.lend,V.lend1,V.cells,V.boxable,over,al,ae,ac,ai,V.plain,Nat.reduceLeDiff,cond_true,cond_false,implies_true,eq_self,ne_eq,reduceIte,reduceCtorEq,Nat.reduceBEq,Nat.reduceLT,Nat.reduceEqDiff,Nat.reduceAdd,Nat.reduceSub,Nat.reduceMul];first|exact aj hb rfl rfl List.take_length ⟨rfl,rfl⟩|exact aj hb rfl rfl List.take_left ⟨rfl,rfl⟩|(trace_state;fail "fin")
   | true=>
    simp -dsimp -implicitDefEqProofs only[aw,ah,V.copy,V.lend,V.lend1,V.cells,V.boxable,over,al,ae,ac,ai,V.plain,Nat.reduceLeDiff,cond_true,cond_false,implies_true,eq_self,ne_eq,reduceIte,reduceCtorEq,Nat.reduceBEq,Nat.reduceLT,Nat.reduceEqDiff,Nat.reduceAdd,Nat.reduceSub,Nat.reduceMul];refine am (dl x.idx _) ?_;cases hx:aQ x.idx with
    | false=>
     rw[if_neg (by simp)];simp -dsimp -implicitDefEqProofs only[aw,ah,V.copy,V.lend,V.lend1,V.cells,V.boxable,over,al,ae,ac,ai,V.plain,Nat.reduceLeDiff,cond_true,cond_false,implies_true,eq_self,ne_eq,reduceIte,reduceCtorEq,Nat.reduceBEq,Nat.reduceLT,Nat.reduceEqDiff,Nat.reduceAdd,Nat.reduceSub,Nat.reduceMul];first|exact aj hb rfl rfl List.take_length ⟨rfl,rfl⟩|exact aj hb rfl rfl List.take_left ⟨rfl,rfl⟩|(trace_state;fail "fin")
    | true=>
     rw[if_pos ⟨rfl,rfl⟩];simp -dsimp -implicitDefEqProofs only[aw,ah,V.copy,V.lend,V.lend1,V.cells,V.boxable,over,al,ae,ac,ai,V.plain,Nat.reduceLeDiff,cond_true,cond_false,implies_true,eq_self,ne_eq,reduceIte,reduceCtorEq,Nat.reduceBEq,Nat.reduceLT,Nat.reduceEqDiff,Nat.reduceAdd,Nat.reduceSub,Nat.reduceMul];first|exact aj hb rfl rfl List.take_length ⟨rfl,rfl⟩|exact aj hb rfl rfl List.take_left ⟨rfl,rfl⟩|(trace_state;fail "fin")
 rw[if_neg k5];by_cases h0:(0:Int)<(d:Int)
 all_goals
  simp -dsimp -implicitDefEqProofs only[aw,ah,V.copy,V.lend,V.lend1,V.cells,V.boxable,over,al,ae,ac,ai,V.plain,Nat.reduceLeDiff,cond_true,cond_false,implies_true,eq_self,ne_eq,reduceIte,reduceCtorEq,Nat.reduceBEq,Nat.reduceLT,Nat.reduceEqDiff,Nat.reduceAdd,Nat.reduceSub,Nat.reduceMul,decide_eq_false h4',h0,decide_eq_false k3,decide_eq_false k5,decide_eq_false k6,decide_true,decide_false];refine am (hv _) ?_;simp -dsimp -implicitDefEqProofs only[aw,ah,V.copy,V.lend,V.lend1,V.cells,V.boxable,over,al,ae,ac,ai,V.plain,Nat.reduceLeDiff,cond_true,cond_false,implies_true,eq_self,ne_eq,reduceIte,reduceCtorEq,Nat.reduceBEq,Nat.reduceLT,Nat.reduceEqDiff,Nat.reduceAdd,Nat.reduceSub,Nat.reduceMul];first|exact aj hb rfl rfl List.take_length ⟨rfl,rfl⟩|exact aj hb rfl rfl List.take_left ⟨rfl,rfl⟩|(trace_state;fail "fin")
end Go.Proofs.YtcbahpllcfbkmaaGreatDoor
