import Derived.Test.YtcbahpllcfbkmaaGreatDoorEt3
set_option linter.unusedVariables false
set_option linter.unusedSimpArgs false
set_option linter.unusedSectionVars false
namespace Go.Proofs.YtcbahpllcfbkmaaGreatDoor
open Go.RowKit
def eF(o:Int):V:=match (if o=21 then none else dU o)with
 | some (m,l)=>.tup [.d (ak m),.d (ay l)]
 | none=>.tup [.d (ak ⟨#[]⟩),.d (ay 0)]
theorem vR{o:Int}(h:¬(7≤o∧o≤21)):dU o=none:=by
 cases hb:dU o with
 | none=>rfl
 | some p=>
  have:=fY _ (dH (m:=p.1) (l:=p.2) hb);simp only at this;omega
theorem dj{o:Int}(h:¬(7≤o∧o≤20)):eF o=.tup [.d (ak ⟨#[]⟩),.d (ay 0)]:=by
 unfold eF;by_cases h21:o=21
 ·rw[if_pos h21]
 ·rw[if_neg h21,vR (by omega)]
set_option maxHeartbeats 1200000 in
theorem pD(o:Int)(σ:List (List V)):Fun G 134 [.d (ay o)] σ (aN (eF o) σ):=by
 refine aq Tryz.func134 FK rfl fun hb hw=>?_;unfold BK;by_cases h:7≤o∧o≤20
 ·have:o=7∨o=8∨o=9∨o=10∨o=11∨o=12∨o=13∨o=14∨o=15∨o=16∨o=17∨o=18∨o=19∨o=20:=by omega
  rcases this with rfl|rfl|rfl|rfl|rfl|rfl|rfl|rfl|rfl|rfl|rfl|rfl|rfl|rfl
  all_goals
   simp -dsimp -implicitDefEqProofs only[aw,ah,V.copy,V.lend,V.lend1,V.cells,V.boxable,over,al,ae,ac,ai,V.plain,Nat.reduceLeDiff,cond_true,cond_false,implies_true,eq_self,ne_eq,reduceIte,reduceCtorEq,Nat.reduceBEq,Nat.reduceLT,Nat.reduceEqDiff,Nat.reduceAdd,Nat.reduceSub,Nat.reduceMul,Int.reduceEq,decide_true,decide_false];exact aj hb rfl rfl List.take_length ⟨rfl,rfl⟩
 ·rw[dj h];have ne:∀k:Int,7≤k→k≤20→decide (o=k)=false:=fun k h1 h2=>by rw[decide_eq_false_iff_not];omega
  simp -dsimp -implicitDefEqProofs only[aw,ah,V.copy,V.lend,V.lend1,V.cells,V.boxable,over,al,ae,ac,ai,V.plain,Nat.reduceLeDiff,cond_true,cond_false,implies_true,eq_self,ne_eq,reduceIte,reduceCtorEq,Nat.reduceBEq,Nat.reduceLT,Nat.reduceEqDiff,Nat.reduceAdd,Nat.reduceSub,Nat.reduceMul,ne 7 (by omega) (by omega),ne 8 (by omega) (by omega),ne 9 (by omega) (by omega),ne 10 (by omega) (by omega),ne 11 (by omega) (by omega),ne 12 (by omega) (by omega),ne 13 (by omega) (by omega),ne 14 (by omega) (by omega),ne 15 (by omega) (by omega),ne 16 (by omega) (by omega),ne 17 (by omega) (by omega),ne 18 (by omega) (by omega),ne 19 (by omega) (by omega),ne 20 (by omega) (by omega)];exact aj hb rfl rfl List.take_length ⟨rfl,rfl⟩
theorem oa(o:Int)(σ:List (List V)):Fun G 153 [.d (ay o)] σ (aN (.d (ay (kj o))) σ):=by
 refine aq Tryz.func153 EF rfl fun hb hw=>?_;unfold BL;simp -dsimp -implicitDefEqProofs only[aw,ah,V.copy,V.lend,V.lend1,V.cells,V.boxable,over,al,ae,ac,ai,V.plain,Nat.reduceLeDiff,cond_true,cond_false,implies_true,eq_self,ne_eq,reduceIte,reduceCtorEq,Nat.reduceBEq,Nat.reduceLT,Nat.reduceEqDiff,Nat.reduceAdd,Nat.reduceSub,Nat.reduceMul];refine am (pD o _) ?_;unfold eF kj;by_cases h21:o=21
 ·subst h21;rw[if_pos rfl,show dU 21=some (dQ 61 62,2)by decide +kernel];simp -dsimp -implicitDefEqProofs only[aw,ah,V.copy,V.lend,V.lend1,V.cells,V.boxable,over,al,ae,ac,ai,V.plain,Nat.reduceLeDiff,cond_true,cond_false,implies_true,eq_self,ne_eq,reduceIte,reduceCtorEq,Nat.reduceBEq,Nat.reduceLT,Nat.reduceEqDiff,Nat.reduceAdd,Nat.reduceSub,Nat.reduceMul,Int.reduceEq,Int.reduceLT,decide_true,decide_false];first|exact aj hb rfl rfl List.take_length ⟨rfl,rfl⟩|exact aj hb rfl rfl List.take_left ⟨rfl,rfl⟩|(trace_state;fail "fin")
 rw[if_neg h21];cases hB:dU o with
 | some p=>
  obtain⟨m,l⟩:=p;have h0:=(fY _ (dH hB)).1;simp only at h0;simp -dsimp -implicitDefEqProofs only[aw,ah,V.copy,V.lend,V.lend1,V.cells,V.boxable,over,al,ae,ac,ai,V.plain,Nat.reduceLeDiff,cond_true,cond_false,implies_true,eq_self,ne_eq,reduceIte,reduceCtorEq,Nat.reduceBEq,Nat.reduceLT,Nat.reduceEqDiff,Nat.reduceAdd,Nat.reduceSub,Nat.reduceMul,decide_eq_true (show(0:Int)<((l:Nat):Int)by omega)];first|exact aj hb rfl rfl List.take_length ⟨rfl,rfl⟩|exact aj hb rfl rfl List.take_left ⟨rfl,rfl⟩|(trace_state;fail "fin")
 | none=>
  simp only;by_cases h22:o=22
  ·rw[if_pos h22];simp -dsimp -implicitDefEqProofs only[aw,ah,V.copy,V.lend,V.lend1,V.cells,V.boxable,over,al,ae,ac,ai,V.plain,Nat.reduceLeDiff,cond_true,cond_false,implies_true,eq_self,ne_eq,reduceIte,reduceCtorEq,Nat.reduceBEq,Nat.reduceLT,Nat.reduceEqDiff,Nat.reduceAdd,Nat.reduceSub,Nat.reduceMul,decide_eq_true h22,Int.reduceLT,decide_false];first|exact aj hb rfl rfl List.take_length ⟨rfl,rfl⟩|exact aj hb rfl rfl List.take_left ⟨rfl,rfl⟩|(trace_state;fail "fin")
  by_cases h23:o=23
  ·rw[if_neg h22,if_pos h23];simp -dsimp -implicitDefEqProofs only[aw,ah,V.copy,V.lend,V.lend1,V.cells,V.boxable,over,al,ae,ac,ai,V.plain,Nat.reduceLeDiff,cond_true,cond_false,implies_true,eq_self,ne_eq,reduceIte,reduceCtorEq,Nat.reduceBEq,Nat.reduceLT,Nat.reduceEqDiff,Nat.reduceAdd,Nat.reduceSub,Nat.reduceMul,decide_eq_false h22,decide_eq_false h21,decide_eq_true h23,Int.reduceLT,decide_false];first|exact aj hb rfl rfl List.take_length ⟨rfl,rfl⟩|exact aj hb rfl rfl List.take_left ⟨rfl,rfl⟩|(trace_state;fail "fin")
  simp -dsimp -implicitDefEqProofs only[aw,ah,V.copy,V.lend,V.lend1,V.cells,V.boxable,over,al,ae,ac,ai,V.plain,Nat.reduceLeDiff,cond_true,cond_false,implies_true,eq_self,ne_eq,reduceIte,reduceCtorEq,Nat.reduceBEq,Nat.reduceLT,Nat.reduceEqDiff,Nat.reduceAdd,Nat.reduceSub,Nat.reduceMul,decide_eq_false h22,decide_eq_false h21,decide_eq_false h23,Int.reduceLT,decide_false];refine am (bS o _) ?_;rw[if_neg h22,if_neg h23];by_cases hp:o=4∨o=5∨o=6
  ·have:¬cN o=[]:=fun hn=>(gU _).1 hn hp;have hd:decide (bs (cN o)=(⟨#[]⟩:ByteArray))=false:=by rw[decide_eq_false_iff_not];intro hh;exact this (jC.1 (hh:_=bs []))
   rw[if_pos hp];simp -dsimp -implicitDefEqProofs only[aw,ah,V.copy,V.lend,V.lend1,V.cells,V.boxable,over,al,ae,ac,ai,V.plain,Nat.reduceLeDiff,cond_true,cond_false,implies_true,eq_self,ne_eq,reduceIte,reduceCtorEq,Nat.reduceBEq,Nat.reduceLT,Nat.reduceEqDiff,Nat.reduceAdd,Nat.reduceSub,Nat.reduceMul,hd];first|exact aj hb rfl rfl List.take_length ⟨rfl,rfl⟩|exact aj hb rfl rfl List.take_left ⟨rfl,rfl⟩|(trace_state;fail "fin")
  ·have:cN o=[]:=(gU _).2 hp;rw[if_neg hp,this];simp -dsimp -implicitDefEqProofs only[aw,ah,V.copy,V.lend,V.lend1,V.cells,V.boxable,over,al,ae,ac,ai,V.plain,Nat.reduceLeDiff,cond_true,cond_false,implies_true,eq_self,ne_eq,reduceIte,reduceCtorEq,Nat.reduceBEq,Nat.reduceLT,Nat.reduceEqDiff,Nat.reduceAdd,Nat.reduceSub,Nat.reduceMul,cv];first|exact aj hb rfl rfl List.take_length ⟨rfl,rfl⟩|exact aj hb rfl rfl List.take_left ⟨rfl,rfl⟩|(trace_state;fail "fin")
theorem km(l:Bs)(j:Nat)(c:UInt8)(h:l[j]? = some c):ixV (V.d (ak (bs l))) (V.d (ay ((j:Nat):Int)))=some (aK .u8 c.toNat):=by
 have h2:(bs l).data.toList[j]? = some c:=by rw[Cs];exact h
 rw[pk,h2];rfl
theorem qv(l:Bs)(h:aQ (bs l)=true)(σ:List (List V)):Fun G 137 [.d (ak (bs l))] σ (aN (.tup [.d (ak ⟨#[]⟩),.d (ay 0),aB false]) σ):=by
 have h16:=bP h;have hw0:=eL h;rw[aY]at h16 hw0;refine aq Tryz.func137 CL rfl fun hb hw=>?_;unfold AC;by_cases h4:l.length<4
 ·have h4':decide (((l.length:Nat):Int)<4)=true:=by rw[decide_eq_true_eq];omega
  simp -dsimp -implicitDefEqProofs only[aw,ah,V.copy,V.lend,V.lend1,V.cells,V.boxable,over,al,ae,ac,ai,V.plain,Nat.reduceLeDiff,cond_true,cond_false,implies_true,eq_self,ne_eq,reduceIte,reduceCtorEq,Nat.reduceBEq,Nat.reduceLT,Nat.reduceEqDiff,Nat.reduceAdd,Nat.reduceSub,Nat.reduceMul,bR,h4'];exact aj hb rfl rfl List.take_length ⟨rfl,rfl⟩
 ·have h4':decide (((l.length:Nat):Int)<4)=false:=by rw[decide_eq_false_iff_not];omega
  have hl:l.length-1<l.length:=by omega
  have hw1:IntKind.i64.wrap (((l.length:Nat):Int)-1)=((l.length-1:Nat):Int):=by rw[aS (by omega) (by omega)];omega
  have hx:=km l (l.length-1) _ (List.getElem?_eq_getElem hl)
  have hc:l[l.length-1].toNat≠93:=by
   have hin:inn l[l.length-1]=true:=by
    cases l with
    | nil=>simp at h4
    | cons a r=>
     simp only[fG,Bool.and_eq_true]at hw0;exact List.all_eq_true.1 hw0.2 _ (List.getElem_mem _)
   intro e;have:l[l.length-1]=93:=UInt8.toNat_inj.1 e;rw[this]at hin;revert hin;decide
  have hc':decide (((l[l.length-1].toNat:Nat):Int)=93)=false:=by rw[decide_eq_false_iff_not];omega
  generalize l[l.length-1]=c at *;simp -dsimp -implicitDefEqProofs only[aw,ah,V.copy,V.lend,V.lend1,V.cells,V.boxable,over,al,ae,ac,ai,V.plain,Nat.reduceLeDiff,cond_true,cond_false,implies_true,eq_self,ne_eq,reduceIte,reduceCtorEq,Nat.reduceBEq,Nat.reduceLT,Nat.reduceEqDiff,Nat.reduceAdd,Nat.reduceSub,Nat.reduceMul,bR,h4',hw1,hx,hc'];exact aj hb rfl rfl List.take_length ⟨rfl,rfl⟩
set_option maxHeartbeats 1200000 in
theorem qh(x:Bs)(i:Nat)(hi:i<8)(h:aQ (bs x)=true)(σ:List (List V)):Fun G 137 [.d (ak (bs (x++[91,UInt8.ofNat (48+i),93])))] σ (aN (.tup [.d (ak (bs x)),.d (ay i),aB true]) σ):=by
 have h16:=bP h;have hw0:=eL h;rw[aY]at h16 hw0
 have h1:1≤x.length:=by cases x with
  | nil=>cases hw0
  | cons a r=>simp
 have hn:=nz x;rw[h]at hn;have hlen:(x++[91,UInt8.ofNat (48+i),93]).length=x.length+3:=by simp
 have g1:(x++[91,UInt8.ofNat (48+i),93])[x.length+2]? = some 93:=by rw[List.getElem?_append_right (by omega)];simp
 have g2:(x++[91,UInt8.ofNat (48+i),93])[x.length]? = some 91:=by rw[List.getElem?_append_right (by omega)];simp
 have g3:(x++[91,UInt8.ofNat (48+i),93])[x.length+1]? = some (UInt8.ofNat (48+i)):=by rw[List.getElem?_append_right (by omega)];simp
 have s1:=lN (x++[91,UInt8.ofNat (48+i),93]) x.length (by omega);rw[List.take_left]at s1;have x1:=km _ _ _ g1;have x2:=km _ _ _ g2;have x3:=km _ _ _ g3;rw[ol i (by omega)]at x3;have hw1:IntKind.i64.wrap (((x.length+3:Nat):Int)-1)=((x.length+2:Nat):Int):=by rw[aS (by omega) (by omega)];omega
 have hw2:IntKind.i64.wrap (((x.length+3:Nat):Int)-3)=((x.length:Nat):Int):=by rw[aS (by omega) (by omega)];omega
 have hw3:IntKind.i64.wrap (((x.length+3:Nat):Int)-2)=((x.length+1:Nat):Int):=by rw[aS (by omega) (by omega)];omega
 have hw4:IntKind.i64.wrap ((48+i:Nat):Int)=((48+i:Nat):Int):=aS (by omega) (by omega);have hw5:IntKind.i64.wrap (((48+i:Nat):Int)-48)=((i:Nat):Int):=by rw[aS (by omega) (by omega)];omega
 have d1:decide (((x.length+3:Nat):Int)<4)=false:=by rw[decide_eq_false_iff_not];omega
 have d2:decide (((i:Nat):Int)<0)=false:=by rw[decide_eq_false_iff_not];omega
 have d3:decide ((8:Int)≤((i:Nat):Int))=false:=by rw[decide_eq_false_iff_not];omega
 have u1:(93:UInt8).toNat=93:=rfl;have u2:(91:UInt8).toNat=91:=rfl;have z:(bs (x++[91,UInt8.ofNat (48+i),93])).size=x.length+3:=by rw[bR,hlen]
 rw[u1]at x1;rw[u2]at x2;generalize x++[91,UInt8.ofNat (48+i),93]=T at *;refine aq Tryz.func137 CL rfl fun hb hw=>?_;unfold AC;simp -dsimp -implicitDefEqProofs only[aw,ah,V.copy,V.lend,V.lend1,V.cells,V.boxable,over,al,ae,ac,ai,V.plain,Nat.reduceLeDiff,cond_true,cond_false,implies_true,eq_self,ne_eq,reduceIte,reduceCtorEq,Nat.reduceBEq,Nat.reduceLT,Nat.reduceEqDiff,Nat.reduceAdd,Nat.reduceSub,Nat.reduceMul,z,d1,hw1,x1,hw2,x2,hw3,x3,hw4,hw5,s1,d2,d3,show(((93:Nat):Int))=93 from rfl,show(((91:Nat):Int))=91 from rfl,Int.reduceEq,decide_true];refine am (hn _) ?_;simp -dsimp -implicitDefEqProofs only[aw,ah,V.copy,V.lend,V.lend1,V.cells,V.boxable,over,al,ae,ac,ai,V.plain,Nat.reduceLeDiff,cond_true,cond_false,implies_true,eq_self,ne_eq,reduceIte,reduceCtorEq,Nat.reduceBEq,Nat.reduceLT,Nat.reduceEqDiff,Nat.reduceAdd,Nat.reduceSub,Nat.reduceMul]
 exact aj hb rfl rfl List.take_length ⟨rfl,rfl⟩
end Go.Proofs.YtcbahpllcfbkmaaGreatDoor
