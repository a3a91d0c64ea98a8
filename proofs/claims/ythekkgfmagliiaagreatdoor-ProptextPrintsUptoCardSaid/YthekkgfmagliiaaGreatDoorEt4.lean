import Derived.Test.YthekkgfmagliiaaGreatDoorEt3
set_option linter.unusedVariables false
set_option linter.unusedSimpArgs false
set_option linter.unusedSectionVars false
namespace Go.Proofs.YthekkgfmagliiaaGreatDoor
open Go.RowKit
def eJ(o:Int):V:=match (if o=21 then none else dS o)with
 | some (m,l)=>.tup [.d (ak m),.d (an l)]
 | none=>.tup [.d (ak ⟨#[]⟩),.d (an 0)]
theorem wS{o:Int}(h:¬(7≤o∧o≤21)):dS o=none:=by
 cases hb:dS o with
 | none=>rfl
 | some p=>
  have:=f9 _ (dA (m:=p.1) (l:=p.2) hb);simp only at this;omega
theorem du{o:Int}(h:¬(7≤o∧o≤20)):eJ o=.tup [.d (ak ⟨#[]⟩),.d (an 0)]:=by
 unfold eJ;by_cases h21:o=21
 ·rw[if_pos h21]
 ·rw[if_neg h21,wS (by omega)]
set_option maxHeartbeats 1000000 in
theorem p7(o:Int)(σ:List (List V)):Fun G 147 [.d (an o)] σ (aB (eJ o) σ):=by
 refine ax Tryz.func147 IR rfl fun hb hw=>?_;unfold Ez;by_cases h:7≤o∧o≤20
 ·have:o=7∨o=8∨o=9∨o=10∨o=11∨o=12∨o=13∨o=14∨o=15∨o=16∨o=17∨o=18∨o=19∨o=20:=by omega
  rcases this with rfl|rfl|rfl|rfl|rfl|rfl|rfl|rfl|rfl|rfl|rfl|rfl|rfl|rfl
  all_goals
   simp -dsimp -implicitDefEqProofs only[aw,ac,V.copy,V.lend,V.lend1,V.cells,V.boxable,over,al,ah,ae,ai,V.plain,Nat.reduceLeDiff,cond_true,cond_false,implies_true,eq_self,ne_eq,reduceIte,reduceCtorEq,Nat.reduceBEq,Nat.reduceLT,Nat.reduceEqDiff,Nat.reduceAdd,Nat.reduceSub,Nat.reduceMul,Int.reduceEq,decide_true,decide_false];exact aj hb rfl rfl List.take_length ⟨rfl,rfl⟩
 ·rw[du h];have ne:∀k:Int,7≤k→k≤20→decide (o=k)=false:=fun k h1 h2=>by rw[decide_eq_false_iff_not];omega
  simp -dsimp -implicitDefEqProofs only[aw,ac,V.copy,V.lend,V.lend1,V.cells,V.boxable,over,al,ah,ae,ai,V.plain,Nat.reduceLeDiff,cond_true,cond_false,implies_true,eq_self,ne_eq,reduceIte,reduceCtorEq,Nat.reduceBEq,Nat.reduceLT,Nat.reduceEqDiff,Nat.reduceAdd,Nat.reduceSub,Nat.reduceMul,ne 7 (by omega) (by omega),ne 8 (by omega) (by omega),ne 9 (by omega) (by omega),ne 10 (by omega) (by omega),ne 11 (by omega) (by omega),ne 12 (by omega) (by omega),ne 13 (by omega) (by omega),ne 14 (by omega) (by omega),ne 15 (by omega) (by omega),ne 16 (by omega) (by omega),ne 17 (by omega) (by omega),ne 18 (by omega) (by omega),ne 19 (by omega) (by omega),ne 20 (by omega) (by omega)];exact aj hb rfl rfl List.take_length ⟨rfl,rfl⟩
theorem qg(o:Int)(σ:List (List V)):Fun G 177 [.d (an o)] σ (aB (.d (an (kW o))) σ):=by
 refine ax Tryz.func177 Iq rfl fun hb hw=>?_;unfold Ge;simp -dsimp -implicitDefEqProofs only[aw,ac,V.copy,V.lend,V.lend1,V.cells,V.boxable,over,al,ah,ae,ai,V.plain,Nat.reduceLeDiff,cond_true,cond_false,implies_true,eq_self,ne_eq,reduceIte,reduceCtorEq,Nat.reduceBEq,Nat.reduceLT,Nat.reduceEqDiff,Nat.reduceAdd,Nat.reduceSub,Nat.reduceMul];refine ao (p7 o _) ?_;unfold eJ kW;by_cases h21:o=21
 ·subst h21;rw[if_pos rfl,show dS 21=some (eG 61 62,2)by decide +kernel];simp -dsimp -implicitDefEqProofs only[aw,ac,V.copy,V.lend,V.lend1,V.cells,V.boxable,over,al,ah,ae,ai,V.plain,Nat.reduceLeDiff,cond_true,cond_false,implies_true,eq_self,ne_eq,reduceIte,reduceCtorEq,Nat.reduceBEq,Nat.reduceLT,Nat.reduceEqDiff,Nat.reduceAdd,Nat.reduceSub,Nat.reduceMul,Int.reduceEq,Int.reduceLT,decide_true,decide_false];first|exact aj hb rfl rfl List.take_length ⟨rfl,rfl⟩|exact aj hb rfl rfl List.take_left ⟨rfl,rfl⟩|(trace_state;fail "fin")
 rw[if_neg h21];cases hB:dS o with
 | some p=>
  obtain⟨m,l⟩:=p;have h0:=(f9 _ (dA hB)).1;simp only at h0;simp -dsimp -implicitDefEqProofs only[aw,ac,V.copy,V.lend,V.lend1,V.cells,V.boxable,over,al,ah,ae,ai,V.plain,Nat.reduceLeDiff,cond_true,cond_false,implies_true,eq_self,ne_eq,reduceIte,reduceCtorEq,Nat.reduceBEq,Nat.reduceLT,Nat.reduceEqDiff,Nat.reduceAdd,Nat.reduceSub,Nat.reduceMul,decide_eq_true (show(0:Int)<((l:Nat):Int)by omega)];first|exact aj hb rfl rfl List.take_length ⟨rfl,rfl⟩|exact aj hb rfl rfl List.take_left ⟨rfl,rfl⟩|(trace_state;fail "fin")
 | none=>
  simp only;by_cases h22:o=22
  ·rw[if_pos h22];simp -dsimp -implicitDefEqProofs only[aw,ac,V.copy,V.lend,V.lend1,V.cells,V.boxable,over,al,ah,ae,ai,V.plain,Nat.reduceLeDiff,cond_true,cond_false,implies_true,eq_self,ne_eq,reduceIte,reduceCtorEq,Nat.reduceBEq,Nat.reduceLT,Nat.reduceEqDiff,Nat.reduceAdd,Nat.reduceSub,Nat.reduceMul,decide_eq_true h22,Int.reduceLT,decide_false];first|exact aj hb rfl rfl List.take_length ⟨rfl,rfl⟩|exact aj hb rfl rfl List.take_left ⟨rfl,rfl⟩|(trace_state;fail "fin")
  by_cases h23:o=23
  ·rw[if_neg h22,if_pos h23];simp -dsimp -implicitDefEqProofs only[aw,ac,V.copy,V.lend,V.lend1,V.cells,V.boxable,over,al,ah,ae,ai,V.plain,Nat.reduceLeDiff,cond_true,cond_false,implies_true,eq_self,ne_eq,reduceIte,reduceCtorEq,Nat.reduceBEq,Nat.reduceLT,Nat.reduceEqDiff,Nat.reduceAdd,Nat.reduceSub,Nat.reduceMul,decide_eq_false h22,decide_eq_false h21,decide_eq_true h23,Int.reduceLT,decide_false];first|exact aj hb rfl rfl List.take_length ⟨rfl,rfl⟩|exact aj hb rfl rfl List.take_left ⟨rfl,rfl⟩|(trace_state;fail "fin")
  simp -dsimp -implicitDefEqProofs only[aw,ac,V.copy,V.lend,V.lend1,V.cells,V.boxable,over,al,ah,ae,ai,V.plain,Nat.reduceLeDiff,cond_true,cond_false,implies_true,eq_self,ne_eq,reduceIte,reduceCtorEq,Nat.reduceBEq,Nat.reduceLT,Nat.reduceEqDiff,Nat.reduceAdd,Nat.reduceSub,Nat.reduceMul,decide_eq_false h22,decide_eq_false h21,decide_eq_false h23,Int.reduceLT,decide_false];refine ao (bR o _) ?_;rw[if_neg h22,if_neg h23];by_cases hp:o=4∨o=5∨o=6
  ·have:¬cJ o=[]:=fun hn=>(ib _).1 hn hp;have hd:decide (bs (cJ o)=(⟨#[]⟩:ByteArray))=false:=by rw[decide_eq_false_iff_not];intro hh;exact this (jD.1 (hh:_=bs []))
   rw[if_pos hp];simp -dsimp -implicitDefEqProofs only[aw,ac,V.copy,V.lend,V.lend1,V.cells,V.boxable,over,al,ah,ae,ai,V.plain,Nat.reduceLeDiff,cond_true,cond_false,implies_true,eq_self,ne_eq,reduceIte,reduceCtorEq,Nat.reduceBEq,Nat.reduceLT,Nat.reduceEqDiff,Nat.reduceAdd,Nat.reduceSub,Nat.reduceMul,hd];first|exact aj hb rfl rfl List.take_length ⟨rfl,rfl⟩|exact aj hb rfl rfl List.take_left ⟨rfl,rfl⟩|(trace_state;fail "fin")
  ·have:cJ o=[]:=(ib _).2 hp;rw[if_neg hp,this];simp -dsimp -implicitDefEqProofs only[aw,ac,V.copy,V.lend,V.lend1,V.cells,V.boxable,over,al,ah,ae,ai,V.plain,Nat.reduceLeDiff,cond_true,cond_false,implies_true,eq_self,ne_eq,reduceIte,reduceCtorEq,Nat.reduceBEq,Nat.reduceLT,Nat.reduceEqDiff,Nat.reduceAdd,Nat.reduceSub,Nat.reduceMul,ck];first|exact aj hb rfl rfl List.take_length ⟨rfl,rfl⟩|exact aj hb rfl rfl List.take_left ⟨rfl,rfl⟩|(trace_state;fail "fin")
theorem ld(l:Bs)(j:Nat)(c:UInt8)(h:l[j]? = some c):ixV (V.d (ak (bs l))) (V.d (an ((j:Nat):Int)))=some (aU .u8 c.toNat):=by
 have h2:(bs l).data.toList[j]? = some c:=by rw[GE];exact h
 rw[pm,h2];rfl
theorem sb(l:Bs)(h:bj (bs l)=true)(σ:List (List V)):Fun G 150 [.d (ak (bs l))] σ (aB (.tup [.d (ak ⟨#[]⟩),.d (an 0),aD false]) σ):=by
 have h16:=cT h;have hw0:=gV h;rw[bg]at h16 hw0;refine ax Tryz.func150 E8 rfl fun hb hw=>?_;unfold CL;by_cases h4:l.length<4
 ·have h4':decide (((l.length:Nat):Int)<4)=true:=by rw[decide_eq_true_eq];omega
  simp -dsimp -implicitDefEqProofs only[aw,ac,V.copy,V.lend,V.lend1,V.cells,V.boxable,over,al,ah,ae,ai,V.plain,Nat.reduceLeDiff,cond_true,cond_false,implies_true,eq_self,ne_eq,reduceIte,reduceCtorEq,Nat.reduceBEq,Nat.reduceLT,Nat.reduceEqDiff,Nat.reduceAdd,Nat.reduceSub,Nat.reduceMul,bQ,h4'];exact aj hb rfl rfl List.take_length ⟨rfl,rfl⟩
 ·have h4':decide (((l.length:Nat):Int)<4)=false:=by rw[decide_eq_false_iff_not];omega
  have hl:l.length-1<l.length:=by omega
  have hw1:IntKind.i64.wrap (((l.length:Nat):Int)-1)=((l.length-1:Nat):Int):=by rw[bd (by omega) (by omega)];omega
  have hx:=ld l (l.length-1) _ (List.getElem?_eq_getElem hl)
  have hc:l[l.length-1].toNat≠93:=by
   have hin:inn l[l.length-1]=true:=by
    cases l with
    | nil=>simp at h4
    | cons a r=>
     simp only[fN,Bool.and_eq_true]at hw0;exact List.all_eq_true.1 hw0.2 _ (List.getElem_mem _)
   intro e;have:l[l.length-1]=93:=UInt8.toNat_inj.1 e;rw[this]at hin;revert hin;decide
  have hc':decide (((l[l.length-1].toNat:Nat):Int)=93)=false:=by rw[decide_eq_false_iff_not];omega
  generalize l[l.length-1]=c at *;simp -dsimp -implicitDefEqProofs only[aw,ac,V.copy,V.lend,V.lend1,V.cells,V.boxable,over,al,ah,ae,ai,V.plain,Nat.reduceLeDiff,cond_true,cond_false,implies_true,eq_self,ne_eq,reduceIte,reduceCtorEq,Nat.reduceBEq,Nat.reduceLT,Nat.reduceEqDiff,Nat.reduceAdd,Nat.reduceSub,Nat.reduceMul,bQ,h4',hw1,hx,hc'];exact aj hb rfl rfl List.take_length ⟨rfl,rfl⟩
set_option maxHeartbeats 1000000 in
theorem r7(x:Bs)(i:Nat)(hi:i<8)(h:bj (bs x)=true)(σ:List (List V)):Fun G 150 [.d (ak (bs (x++[91,UInt8.ofNat (48+i),93])))] σ (aB (.tup [.d (ak (bs x)),.d (an i),aD true]) σ):=by
 have h16:=cT h;have hw0:=gV h;rw[bg]at h16 hw0
 have h1:1≤x.length:=by cases x with
  | nil=>cases hw0
  | cons a r=>simp
 have hn:=pg x;rw[h]at hn;have hlen:(x++[91,UInt8.ofNat (48+i),93]).length=x.length+3:=by simp
 have g1:(x++[91,UInt8.ofNat (48+i),93])[x.length+2]? = some 93:=by rw[List.getElem?_append_right (by omega)];simp
 have g2:(x++[91,UInt8.ofNat (48+i),93])[x.length]? = some 91:=by rw[List.getElem?_append_right (by omega)];simp
 have g3:(x++[91,UInt8.ofNat (48+i),93])[x.length+1]? = some (UInt8.ofNat (48+i)):=by rw[List.getElem?_append_right (by omega)];simp
 have s1:=mE (x++[91,UInt8.ofNat (48+i),93]) x.length (by omega);rw[List.take_left]at s1;have x1:=ld _ _ _ g1;have x2:=ld _ _ _ g2;have x3:=ld _ _ _ g3;rw[qB i (by omega)]at x3;have hw1:IntKind.i64.wrap (((x.length+3:Nat):Int)-1)=((x.length+2:Nat):Int):=by rw[bd (by omega) (by omega)];omega
 have hw2:IntKind.i64.wrap (((x.length+3:Nat):Int)-3)=((x.length:Nat):Int):=by rw[bd (by omega) (by omega)];omega
 have hw3:IntKind.i64.wrap (((x.length+3:Nat):Int)-2)=((x.length+1:Nat):Int):=by rw[bd (by omega) (by omega)];omega
 have hw4:IntKind.i64.wrap ((48+i:Nat):Int)=((48+i:Nat):Int):=bd (by omega) (by omega);have hw5:IntKind.i64.wrap (((48+i:Nat):Int)-48)=((i:Nat):Int):=by rw[bd (by omega) (by omega)];omega
 have d1:decide (((x.length+3:Nat):Int)<4)=false:=by rw[decide_eq_false_iff_not];omega
 have d2:decide (((i:Nat):Int)<0)=false:=by rw[decide_eq_false_iff_not];omega
 have d3:decide ((8:Int)≤((i:Nat):Int))=false:=by rw[decide_eq_false_iff_not];omega
 have u1:(93:UInt8).toNat=93:=rfl;have u2:(91:UInt8).toNat=91:=rfl;have z:(bs (x++[91,UInt8.ofNat (48+i),93])).size=x.length+3:=by rw[bQ,hlen]
 rw[u1]at x1;rw[u2]at x2;generalize x++[91,UInt8.ofNat (48+i),93]=T at *;refine ax Tryz.func150 E8 rfl fun hb hw=>?_;unfold CL;simp -dsimp -implicitDefEqProofs only[aw,ac,V.copy,V.lend,V.lend1,V.cells,V.boxable,over,al,ah,ae,ai,V.plain,Nat.reduceLeDiff,cond_true,cond_false,implies_true,eq_self,ne_eq,reduceIte,reduceCtorEq,Nat.reduceBEq,Nat.reduceLT,Nat.reduceEqDiff,Nat.reduceAdd,Nat.reduceSub,Nat.reduceMul,z,d1,hw1,x1,hw2,x2,hw3,x3,hw4,hw5,s1,d2,d3,show(((93:Nat):Int))=93 from rfl,show(((91:Nat):Int))=91 from rfl,Int.reduceEq,decide_true];refine ao (hn _) ?_;simp -dsimp -implicitDefEqProofs only[aw,ac,V.copy,V.lend,V.lend1,V.cells,V.boxable,over,al,ah,ae,ai,V.plain,Nat.reduceLeDiff,cond_true,cond_false,implies_true,eq_self,ne_eq,reduceIte,reduceCtorEq,Nat.reduceBEq,Nat.reduceLT,Nat.reduceEqDiff,Nat.reduceAdd,Nat.reduceSub,Nat.reduceMul]
 exact aj hb rfl rfl List.take_length ⟨rfl,rfl⟩
end Go.Proofs.YthekkgfmagliiaaGreatDoor
