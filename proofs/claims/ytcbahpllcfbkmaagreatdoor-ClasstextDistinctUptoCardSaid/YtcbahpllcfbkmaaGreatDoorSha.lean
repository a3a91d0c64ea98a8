import Derived.Test.YtcbahpllcfbkmaaGreatDoorK3
import Derived.Test.YtcbahpllcfbkmaaGreatDoorRaw
import Derived.Test.YtcbahpllcfbkmaaGreatDoorIw1
import Derived.Test.YtcbahpllcfbkmaaGreatDoorIt1
set_option linter.unusedVariables false
set_option linter.unusedSimpArgs false
set_option linter.unusedSectionVars false
namespace Go.Proofs.YtcbahpllcfbkmaaGreatDoor
open Go.RowKit
abbrev vu7(u:List Bool):V:=.agg (u.map aA)
def kvK:List (Key×V):=[(.i 1,vu7 [true,false,false,false,false,false,false]),(.i 2,vu7 [true,false,false,false,false,false,false]),(.i 3,vu7 [false,true,false,true,false,false,false]),
 (.i 4,vu7 [true,false,false,false,true,true,false]),(.i 5,vu7 [false,true,true,false,true,false,false]),(.i 6,vu7 [false,false,false,false,false,false,true])]
theorem oQ(σ:List (List V)):Fun G 84 [] σ (fun o σ'=>o=.ret (.mp σ.length)∧σ'=σ++[[.mapc false kvK]]):=by
 refine ay Tryz.func84 k84 rfl fun hb hw=>?_;unfold c84;simp -dsimp -implicitDefEqProofs only[aw,ah,V.copy,V.lend,V.lend1,V.cells,V.boxable,over,ak,ae,ac,ai,V.plain,Nat.reduceLeDiff,cond_true,cond_false,implies_true,eq_self,ne_eq,reduceIte,reduceCtorEq,Nat.reduceBEq,Nat.reduceLT,Nat.reduceEqDiff,Nat.reduceAdd,Nat.reduceSub,Nat.reduceMul];exact⟨_,_,.refl _ _ _,.mp σ.length,rfl,(σ++[[V.mapc false kvK]]).length,by simp,by show aB _ (List.take _ (σ++[[V.mapc false kvK]]))=true;rw[List.take_length];exact aQ hb rfl,by simp[V.under],by show Out.ret _=_∧List.take _ (σ++[[V.mapc false kvK]])=_;rw[List.take_length];exact⟨rfl,rfl⟩⟩
theorem rj(k:Int):nO true (.agg F7) (gU (.i k) kvK)=.tup [.agg ((if 1≤k∧k≤6 then jA k else[false,false,false,false,false,false,false]).map aA),aA (decide (1≤k∧k≤6))]:=by
 by_cases h:1≤k∧k≤6
 ·rw[if_pos h,decide_eq_true h];have h6:k=1∨k=2∨k=3∨k=4∨k=5∨k=6:=by omega
  rcases h6 with rfl|rfl|rfl|rfl|rfl|rfl<;>rfl
 ·rw[if_neg h,decide_eq_false h]
  have:gU (.i k) kvK=none:=by
   have n1:¬k=1:=by omega
   have n2:¬k=2:=by omega
   have n3:¬k=3:=by omega
   have n4:¬k=4:=by omega
   have n5:¬k=5:=by omega
   have n6:¬k=6:=by omega
   simp[gU,kvK,n1,n2,n3,n4,n5,n6,Ne.symm n1,Ne.symm n2,Ne.symm n3,Ne.symm n4,Ne.symm n5,Ne.symm n6]
  rw[this];rfl
theorem o2(l:List ByteArray){j:Nat}(h:j<l.length):(l.drop j).all aL=(aL l[j]&&(l.drop (j+1)).all aL):=by rw[List.drop_eq_getElem_cons h,List.all_cons]
theorem CY{C:Cx}{n0:Nat}{l:List O}{es:List (List Nat)}{keep:List Nat}{ρ:am}{σ:List (List V)}{Q:dy}{t:Tag Q}(h:tY C n0 l es ρ σ fun e ρ' σ'=>Q e (aP keep ρ') σ'):fh C n0 (.raw l es keep) ρ σ Q t:=h
theorem BC(k:Int):∃b1 b2 b3 b4 b5 b6 b7,jA k=[b1,b2,b3,b4,b5,b6,b7]:=by
 unfold jA;repeat' split
 all_goals exact⟨_,_,_,_,_,_,_,rfl⟩
theorem An(x:It):gn x=if wE x.ws≠0 then wE x.ws else if aL x.name=true then 0 else 7:=by
 unfold gn wE;repeat' split
 all_goals simp_all
set_option maxHeartbeats 4000000 in
theorem wu(x:It)(d:Nat)(bd:List ByteArray)(hbig:fY x≤1200000)(σ:List (List V)):Fun G 58 [vit x,wZ d bd] σ (aZ (.d (az (aR x d))) σ):=by
 have hb0:=cA x;refine ay Tryz.func58 k58 (by simp only[aV];rfl) fun hb hw=>?_;unfold c58;simp -dsimp -implicitDefEqProofs only[aw,ah,V.copy,V.lend,V.lend1,V.cells,V.boxable,over,ak,ae,ac,ai,V.plain,Nat.reduceLeDiff,cond_true,cond_false,implies_true,eq_self,ne_eq,reduceIte,reduceCtorEq,Nat.reduceBEq,Nat.reduceLT,Nat.reduceEqDiff,Nat.reduceAdd,Nat.reduceSub,Nat.reduceMul,aV];by_cases hk:1≤x.kind∧x.kind≤6
 case neg=>
  have hm:=rj x.kind;rw[if_neg hk,decide_eq_false hk]at hm;have hs:aR x d=1:=by unfold aR;rw[if_pos (.inl hk)]
  rw[hs];refine CY (nh (bx:=σ.length) (kd:=x.kind) (by simp) oQ rfl (by rw[List.getElem?_append_right (Nat.le_refl _),Nat.sub_self];rfl) rfl hm (aQ hb rfl) (by simp[get,V.under]) ?_);simp -dsimp -implicitDefEqProofs only[aw,ah,V.copy,V.lend,V.lend1,V.cells,V.boxable,over,ak,ae,ac,ai,V.plain,Nat.reduceLeDiff,cond_true,cond_false,implies_true,eq_self,ne_eq,reduceIte,reduceCtorEq,Nat.reduceBEq,Nat.reduceLT,Nat.reduceEqDiff,Nat.reduceAdd,Nat.reduceSub,Nat.reduceMul];first|exact aj hb rfl rfl List.take_length ⟨rfl,rfl⟩|exact aj hb rfl rfl List.take_left ⟨rfl,rfl⟩|(trace_state;fail "fin")
 have hm:=rj x.kind;rw[if_pos hk,decide_eq_true hk]at hm;have hpl:=fun σ=>vt x hbig hk σ;obtain⟨b1,b2,b3,b4,b5,b6,b7,hu⟩:=BC x.kind;rw[hu]at hm hpl;simp only[aV,List.map_cons,List.map_nil]at hpl;refine CY (nh (bx:=σ.length) (kd:=x.kind) (by simp) oQ rfl (by rw[List.getElem?_append_right (Nat.le_refl _),Nat.sub_self];rfl) rfl hm (aQ hb rfl) (by simp[get,V.under]) ?_);simp -dsimp -implicitDefEqProofs only[aw,ah,V.copy,V.lend,V.lend1,V.cells,V.boxable,over,ak,ae,ac,ai,V.plain,Nat.reduceLeDiff,cond_true,cond_false,implies_true,eq_self,ne_eq,reduceIte,reduceCtorEq,Nat.reduceBEq,Nat.reduceLT,Nat.reduceEqDiff,Nat.reduceAdd,Nat.reduceSub,Nat.reduceMul];refine aq (hpl _) ?_;cases hp:bv x with
 | false=>
  have hs:aR x d=1:=by unfold aR;rw[if_pos (.inr (.inl hp))]
  rw[hs];simp -dsimp -implicitDefEqProofs only[aw,ah,V.copy,V.lend,V.lend1,V.cells,V.boxable,over,ak,ae,ac,ai,V.plain,Nat.reduceLeDiff,cond_true,cond_false,implies_true,eq_self,ne_eq,reduceIte,reduceCtorEq,Nat.reduceBEq,Nat.reduceLT,Nat.reduceEqDiff,Nat.reduceAdd,Nat.reduceSub,Nat.reduceMul];first|exact aj hb rfl rfl List.take_length ⟨rfl,rfl⟩|exact aj hb rfl rfl List.take_left ⟨rfl,rfl⟩|(trace_state;fail "fin")
 | true=>
 by_cases h4:4<d
 ·have hs:aR x d=1:=by unfold aR;rw[if_pos (.inr (.inr (.inl h4)))]
  have h4':(4:Int)<(d:Int):=by omega
  rw[hs];simp -dsimp -implicitDefEqProofs only[aw,ah,V.copy,V.lend,V.lend1,V.cells,V.boxable,over,ak,ae,ac,ai,V.plain,Nat.reduceLeDiff,cond_true,cond_false,implies_true,eq_self,ne_eq,reduceIte,reduceCtorEq,Nat.reduceBEq,Nat.reduceLT,Nat.reduceEqDiff,Nat.reduceAdd,Nat.reduceSub,Nat.reduceMul,decide_eq_true h4'];first|exact aj hb rfl rfl List.take_length ⟨rfl,rfl⟩|exact aj hb rfl rfl List.take_left ⟨rfl,rfl⟩|(trace_state;fail "fin")
 have h4':¬(4:Int)<(d:Int):=by omega
 by_cases hd:0<d∧(x.kind=3∨x.kind=6)
 ·have hs:aR x d=1:=by unfold aR;rw[if_pos (.inr (.inr (.inr hd)))]
  have h0:(0:Int)<(d:Int):=by omega
  rw[hs];rcases hd.2 with k|k
  all_goals
   simp -dsimp -implicitDefEqProofs only[aw,ah,V.copy,V.lend,V.lend1,V.cells,V.boxable,over,ak,ae,ac,ai,V.plain,Nat.reduceLeDiff,cond_true,cond_false,implies_true,eq_self,ne_eq,reduceIte,reduceCtorEq,Nat.reduceBEq,Nat.reduceLT,Nat.reduceEqDiff,Nat.reduceAdd,Nat.reduceSub,Nat.reduceMul,decide_eq_false h4',decide_eq_true h0,k,Int.reduceEq,decide_true,decide_false];first|exact aj hb rfl rfl List.take_length ⟨rfl,rfl⟩|exact aj hb rfl rfl List.take_left ⟨rfl,rfl⟩|(trace_state;fail "fin")
 have hs:aR x d=if x.kind=3 then gn x else if x.kind=6 then iC x else if x.kind=5 then nz x else bU x.ex:=by
  unfold aR;rw[if_neg];rintro(h|h|h|h)
  ·exact h hk
  ·rw[hp]at h;cases h
  ·exact h4 h
  ·exact hd h
 rw[hs];have hv:=fun σ=>lA x.ex (by omega) (by have:=na x.ex;omega) σ;simp only[be]at hv;by_cases k3:x.kind=3
 ·have h0:¬(0:Int)<(d:Int):=by have:¬0<d:=fun h=>hd ⟨h,.inl k3⟩;omega
  rw[if_pos k3,An];simp -dsimp -implicitDefEqProofs only[aw,ah,V.copy,V.lend,V.lend1,V.cells,V.boxable,over,ak,ae,ac,ai,V.plain,Nat.reduceLeDiff,cond_true,cond_false,implies_true,eq_self,ne_eq,reduceIte,reduceCtorEq,Nat.reduceBEq,Nat.reduceLT,Nat.reduceEqDiff,Nat.reduceAdd,Nat.reduceSub,Nat.reduceMul,decide_eq_false h4',decide_eq_false h0,k3,Int.reduceEq,decide_true,decide_false];refine aq (qP x.ws (by omega) _) ?_;by_cases hw0:wE x.ws=0
  ·rw[if_neg (by simp[hw0])];simp -dsimp -implicitDefEqProofs only[aw,ah,V.copy,V.lend,V.lend1,V.cells,V.boxable,over,ak,ae,ac,ai,V.plain,Nat.reduceLeDiff,cond_true,cond_false,implies_true,eq_self,ne_eq,reduceIte,reduceCtorEq,Nat.reduceBEq,Nat.reduceLT,Nat.reduceEqDiff,Nat.reduceAdd,Nat.reduceSub,Nat.reduceMul,hw0,decide_true];refine aq (ow x.name _) ?_;cases hi:aL x.name with
   | true=>simp -dsimp -implicitDefEqProofs only[aw,ah,V.copy,V.lend,V.lend1,V.cells,V.boxable,over,ak,ae,ac,ai,V.plain,Nat.reduceLeDiff,cond_true,cond_false,implies_true,eq_self,ne_eq,reduceIte,reduceCtorEq,Nat.reduceBEq,Nat.reduceLT,Nat.reduceEqDiff,Nat.reduceAdd,Nat.reduceSub,Nat.reduceMul,Int.reduceEq,decide_false]
           first|exact aj hb rfl rfl List.take_length ⟨rfl,rfl⟩|exact aj hb rfl rfl List.take_left ⟨rfl,rfl⟩|(trace_state;fail "fin")
   | false=>simp -dsimp -implicitDefEqProofs only[aw,ah,V.copy,V.lend,V.lend1,V.cells,V.boxable,over,ak,ae,ac,ai,V.plain,Nat.reduceLeDiff,cond_true,cond_false,implies_true,eq_self,ne_eq,reduceIte,reduceCtorEq,Nat.reduceBEq,Nat.reduceLT,Nat.reduceEqDiff,Nat.reduceAdd,Nat.reduceSub,Nat.reduceMul,Int.reduceEq,decide_false]
            first|exact aj hb rfl rfl List.take_length ⟨rfl,rfl⟩|exact aj hb rfl rfl List.take_left ⟨rfl,rfl⟩|(trace_state;fail "fin")
  ·rw[if_pos hw0];simp -dsimp -implicitDefEqProofs only[aw,ah,V.copy,V.lend,V.lend1,V.cells,V.boxable,over,ak,ae,ac,ai,V.plain,Nat.reduceLeDiff,cond_true,cond_false,implies_true,eq_self,ne_eq,reduceIte,reduceCtorEq,Nat.reduceBEq,Nat.reduceLT,Nat.reduceEqDiff,Nat.reduceAdd,Nat.reduceSub,Nat.reduceMul,decide_eq_false hw0];first|exact aj hb rfl rfl List.take_length ⟨rfl,rfl⟩|exact aj hb rfl rfl List.take_left ⟨rfl,rfl⟩|(trace_state;fail "fin")
 by_cases k6:x.kind=6
 ·have h0:¬(0:Int)<(d:Int):=by have:¬0<d:=fun h=>hd ⟨h,.inr k6⟩;omega
  rw[if_neg k3,if_pos k6];unfold iC;by_cases hB:x.bef=[]
  ·have e:decide (((x.bef.length:Nat):Int)=0)=true:=by simp[hB]
   rw[if_pos (.inl hB)];simp -dsimp -implicitDefEqProofs only[aw,ah,V.copy,V.lend,V.lend1,V.cells,V.boxable,over,ak,ae,ac,ai,V.plain,Nat.reduceLeDiff,cond_true,cond_false,implies_true,eq_self,ne_eq,reduceIte,reduceCtorEq,Nat.reduceBEq,Nat.reduceLT,Nat.reduceEqDiff,Nat.reduceAdd,Nat.reduceSub,Nat.reduceMul,decide_eq_false h4',decide_eq_false h0,k6,Int.reduceEq,decide_true,decide_false,List.length_map,e];first|exact aj hb rfl rfl List.take_length ⟨rfl,rfl⟩|exact aj hb rfl rfl List.take_left ⟨rfl,rfl⟩|(trace_state;fail "fin")
  have eB:decide (((x.bef.length:Nat):Int)=0)=false:=by have:=List.length_pos_iff.2 hB;simp;omega
  by_cases hA:x.aft=[]
  ·have e:decide (((x.aft.length:Nat):Int)=0)=true:=by simp[hA]
   rw[if_pos (.inr hA)];simp -dsimp -implicitDefEqProofs only[aw,ah,V.copy,V.lend,V.lend1,V.cells,V.boxable,over,ak,ae,ac,ai,V.plain,Nat.reduceLeDiff,cond_true,cond_false,implies_true,eq_self,ne_eq,reduceIte,reduceCtorEq,Nat.reduceBEq,Nat.reduceLT,Nat.reduceEqDiff,Nat.reduceAdd,Nat.reduceSub,Nat.reduceMul,decide_eq_false h4',decide_eq_false h0,k6,Int.reduceEq,decide_true,decide_false,List.length_map,eB,e];first|exact aj hb rfl rfl List.take_length ⟨rfl,rfl⟩|exact aj hb rfl rfl List.take_left ⟨rfl,rfl⟩|(trace_state;fail "fin")
  have eA:decide (((x.aft.length:Nat):Int)=0)=false:=by have:=List.length_pos_iff.2 hA;simp;omega
  rw[if_neg (fun h=>h.elim hB hA)];simp -dsimp -implicitDefEqProofs only[aw,ah,V.copy,V.lend,V.lend1,V.cells,V.boxable,over,ak,ae,ac,ai,V.plain,Nat.reduceLeDiff,cond_true,cond_false,implies_true,eq_self,ne_eq,reduceIte,reduceCtorEq,Nat.reduceBEq,Nat.reduceLT,Nat.reduceEqDiff,Nat.reduceAdd,Nat.reduceSub,Nat.reduceMul,decide_eq_false h4',decide_eq_false h0,k6,Int.reduceEq,decide_true,decide_false,List.length_map,eB,eA];have hcc:=fun σ=>tc [x.bef,x.aft] (by simp;omega) (by simp) σ;have e2:[x.bef,x.aft].flatten=x.bef++x.aft:=by simp
  rw[e2]at hcc;simp only[List.map_cons,List.map_nil]at hcc;refine aq (hcc _) ?_;have hL:(x.bef++x.aft).length≤1200000:=by rw[List.length_append];omega
  generalize x.bef++x.aft=L at hL;simp -dsimp -implicitDefEqProofs only[aw,ah,V.copy,V.lend,V.lend1,V.cells,V.boxable,over,ak,ae,ac,ai,V.plain,Nat.reduceLeDiff,cond_true,cond_false,implies_true,eq_self,ne_eq,reduceIte,reduceCtorEq,Nat.reduceBEq,Nat.reduceLT,Nat.reduceEqDiff,Nat.reduceAdd,Nat.reduceSub,Nat.reduceMul,List.length_map]
  refine aS [79,80,81] (R:=fun(j:Nat) ρ σ'=>ρ=[(79,.own 9 1 (L.map fun s=>[an s])),(80,aI .i64 L.length),(81,aI .i64 j)]∧L.all aL=(L.drop j).all aL∧
   σ'=σ++[[.d (az 6),.d (az x.ex.op),.d (az x.ex.num),.d (an x.ex.name),.d (.sl (x.ex.args.map dex)),.d (an x.name),.d (an x.idx),.d (.sl (x.ws.map dwt)),.d (.sl (x.items.map dit)),.d (.sl (x.els.map dit)),.d (.sl (x.bef.map fun s=>[an s])),.d (.sl (x.aft.map fun s=>[an s]))],[.d (az d),.d (.sl (bd.map fun s=>[an s]))],[aA b1,aA b2,aA b3,aA b4,aA b5,aA b6,aA b7]]) L.length ⟨rfl,rfl,rfl⟩ ?_ _
  rintro j ρ' σ' hj ⟨rfl,hr,rfl⟩;by_cases hlt:j<L.length
  ·rw[o2 L hlt]at hr;simp -dsimp -implicitDefEqProofs only[aw,ah,V.copy,V.lend,V.lend1,V.cells,V.boxable,over,ak,ae,ac,ai,V.plain,Nat.reduceLeDiff,cond_true,cond_false,implies_true,eq_self,ne_eq,reduceIte,reduceCtorEq,Nat.reduceBEq,Nat.reduceLT,Nat.reduceEqDiff,Nat.reduceAdd,Nat.reduceSub,Nat.reduceMul,Int.ofNat_lt,hlt,decide_true,List.getElem?_eq_getElem hlt,aJ hlt (show L.length≤9223372036854775807 by omega)];refine aq (ow L[j] _) ?_;cases hi:aL L[j]with
   | true=>
    simp -dsimp -implicitDefEqProofs only[aw,ah,V.copy,V.lend,V.lend1,V.cells,V.boxable,over,ak,ae,ac,ai,V.plain,Nat.reduceLeDiff,cond_true,cond_false,implies_true,eq_self,ne_eq,reduceIte,reduceCtorEq,Nat.reduceBEq,Nat.reduceLT,Nat.reduceEqDiff,Nat.reduceAdd,Nat.reduceSub,Nat.reduceMul,aJ hlt (show L.length≤9223372036854775807 by omega)];exact⟨hlt,Nxt.same (by simp) (aQ hb rfl) (by simp[ax,V.under]) ⟨rfl,by rw[hr,hi,Bool.true_and],rfl⟩⟩
   | false=>
    rw[hr,hi,Bool.false_and,if_neg Bool.false_ne_true];simp -dsimp -implicitDefEqProofs only[aw,ah,V.copy,V.lend,V.lend1,V.cells,V.boxable,over,ak,ae,ac,ai,V.plain,Nat.reduceLeDiff,cond_true,cond_false,implies_true,eq_self,ne_eq,reduceIte,reduceCtorEq,Nat.reduceBEq,Nat.reduceLT,Nat.reduceEqDiff,Nat.reduceAdd,Nat.reduceSub,Nat.reduceMul];first|exact aj hb rfl rfl List.take_length ⟨rfl,rfl⟩|exact aj hb rfl rfl List.take_left ⟨rfl,rfl⟩|(trace_state;fail "fin")
  ·rw[List.drop_eq_nil_of_le (by omega)]at hr;rw[hr,List.all_nil,if_pos rfl];simp -dsimp -implicitDefEqProofs only[aw,ah,V.copy,V.lend,V.lend1,V.cells,V.boxable,over,ak,ae,ac,ai,V.plain,Nat.reduceLeDiff,cond_true,cond_false,implies_true,eq_self,ne_eq,reduceIte,reduceCtorEq,Nat.reduceBEq,Nat.reduceLT,Nat.reduceEqDiff,Nat.reduceAdd,Nat.reduceSub,Nat.reduceMul,Int.ofNat_lt,hlt,decide_false];first|exact aj hb rfl rfl List.take_length ⟨rfl,rfl⟩|exact aj hb rfl rfl List.take_left ⟨rfl,rfl⟩|(trace_state;fail "fin")
 rw[if_neg k3,if_neg k6];by_cases k5:x.kind=5
 ·rw[if_pos k5];unfold nz;by_cases h0:(0:Int)<(d:Int)
  all_goals
   simp -dsimp -implicitDefEqProofs only[aw,ah,V.copy,V.lend,V.lend1,V.cells,V.boxable,over,ak,ae,ac,ai,V.plain,Nat.reduceLeDiff,cond_true,cond_false,implies_true,eq_self,ne_eq,reduceIte,reduceCtorEq,Nat.reduceBEq,Nat.reduceLT,Nat.reduceEqDiff,Nat.reduceAdd,Nat.reduceSub,Nat.reduceMul,decide_eq_false h4',h0,k5,Int.reduceEq,decide_true,decide_false];refine aq (dD x.name _) ?_;cases hn:aD x.name with
   | false=>
    rw[if_neg (by simp)];simp -dsimp -implicitDefEqProofs only[aw,ah,V.copy,V.lend,V.lend1,V.cells,V.boxable,over,ak,ae,ac,ai,V.plain,Nat.reduceLeDiff,cond_true,cond_false,implies_true,eq_self,ne_eq,reduceIte,reduceCtorEq,Nat.reduceBEq,Nat.reduceLT,Nat.reduceEqDiff,Nat.reduceAdd,Nat.reduceSub,Nat.reduceMul];first|exact aj hb rfl rfl List.take_length ⟨rfl,rfl⟩|exact aj hb rfl rfl List.take_left ⟨rfl,rfl⟩|(trace_state;fail "fin")
   | true=>
    simp -dsimp -implicitDefEqProofs only[aw,ah,V.copy,V.lend,V.lend1,V.cells,V.boxable,over,ak,ae,ac,ai,V.plain,Nat.reduceLeDiff,cond_true,cond_false,implies_true,eq_self,ne_eq,reduceIte,reduceCtorEq,Nat.reduceBEq,Nat.reduceLT,Nat.reduceEqDiff,Nat.reduceAdd,Nat.reduceSub,Nat.reduceMul];refine aq (dD x.idx _) ?_;cases hx:aD x.idx with
    | false=>
     rw[if_neg (by simp)];simp -dsimp -implicitDefEqProofs only[aw,ah,V.copy,V.lend,V.lend1,V.cells,V.boxable,over,ak,ae,ac,ai,V.plain,Nat.reduceLeDiff,cond_true,cond_false,implies_true,eq_self,ne_eq,reduceIte,reduceCtorEq,Nat.reduceBEq,Nat.reduceLT,Nat.reduceEqDiff,Nat.reduceAdd,Nat.reduceSub,Nat.reduceMul];first|exact aj hb rfl rfl List.take_length ⟨rfl,rfl⟩|exact aj hb rfl rfl List.take_left ⟨rfl,rfl⟩|(trace_state;fail "fin")
    | true=>
     rw[if_pos ⟨rfl,rfl⟩];simp -dsimp -implicitDefEqProofs only[aw,ah,V.copy,V.lend,V.lend1,V.cells,V.boxable,over,ak,ae,ac,ai,V.plain,Nat.reduceLeDiff,cond_true,cond_false,implies_true,eq_self,ne_eq,reduceIte,reduceCtorEq,Nat.reduceBEq,Nat.reduceLT,Nat.reduceEqDiff,Nat.reduceAdd,Nat.reduceSub,Nat.reduceMul];first|exact aj hb rfl rfl List.take_length ⟨rfl,rfl⟩|exact aj hb rfl rfl List.take_left ⟨rfl,rfl⟩|(trace_state;fail "fin")
 rw[if_neg k5];by_cases h0:(0:Int)<(d:Int)
 all_goals
  simp -dsimp -implicitDefEqProofs only[aw,ah,V.copy,V.lend,V.lend1,V.cells,V.boxable,over,ak,ae,ac,ai,V.plain,Nat.reduceLeDiff,cond_true,cond_false,implies_true,eq_self,ne_eq,reduceIte,reduceCtorEq,Nat.reduceBEq,Nat.reduceLT,Nat.reduceEqDiff,Nat.reduceAdd,Nat.reduceSub,Nat.reduceMul,decide_eq_false h4',h0,decide_eq_false k3,decide_eq_false k5,decide_eq_false k6,decide_true,decide_false];refine aq (hv _) ?_;simp -dsimp -implicitDefEqProofs only[aw,ah,V.copy,V.lend,V.lend1,V.cells,V.boxable,over,ak,ae,ac,ai,V.plain,Nat.reduceLeDiff,cond_true,cond_false,implies_true,eq_self,ne_eq,reduceIte,reduceCtorEq,Nat.reduceBEq,Nat.reduceLT,Nat.reduceEqDiff,Nat.reduceAdd,Nat.reduceSub,Nat.reduceMul];first|exact aj hb rfl rfl List.take_length ⟨rfl,rfl⟩|exact aj hb rfl rfl List.take_left ⟨rfl,rfl⟩|(trace_state;fail "fin")
end Go.Proofs.YtcbahpllcfbkmaaGreatDoor
