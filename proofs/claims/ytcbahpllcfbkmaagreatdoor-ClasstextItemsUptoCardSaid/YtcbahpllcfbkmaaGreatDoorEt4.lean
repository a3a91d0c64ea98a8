import Derived.Test.YtcbahpllcfbkmaaGreatDoorEt3
set_option linter.unusedVariables false
set_option linter.unusedSimpArgs false
set_option linter.unusedSectionVars false
namespace Go.Proofs.YtcbahpllcfbkmaaGreatDoor
open Go.RowKit
def signV(o:Int):V:=match (if o=21 then none else binL o)with
 | some (m,l)=>.tup [.d (dstr m),.d (dint l)]
 | none=>.tup [.d (dstr ⟨#[]⟩),.d (dint 0)]
theorem binL_out{o:Int}(h:¬(7≤o∧o≤21)):binL o=none:=by
 cases hb:binL o with
 | none=>rfl
 | some p=>
  have:=bin_lev _ (binL_some (m:=p.1) (l:=p.2) hb);simp only at this;omega
theorem sign_none{o:Int}(h:¬(7≤o∧o≤20)):signV o=.tup [.d (dstr ⟨#[]⟩),.d (dint 0)]:=by
 unfold signV;by_cases h21:o=21
 ·rw[if_pos h21]
 ·rw[if_neg h21,binL_out (by omega)]
set_option maxHeartbeats 1200000 in
theorem sign_fun(o:Int)(σ:List (List V)):Fun G 134 [.d (dint o)] σ (RetV (signV o) σ):=by
 refine fun_code Tryz.func134 k134 rfl fun hb hw=>?_;unfold c134;by_cases h:7≤o∧o≤20
 ·have:o=7∨o=8∨o=9∨o=10∨o=11∨o=12∨o=13∨o=14∨o=15∨o=16∨o=17∨o=18∨o=19∨o=20:=by omega
  rcases this with rfl|rfl|rfl|rfl|rfl|rfl|rfl|rfl|rfl|rfl|rfl|rfl|rfl|rfl
  all_goals
   simp -dsimp -implicitDefEqProofs only[aw,slots0,V.copy,eq_self,reduceIte,reduceCtorEq,Nat.reduceBEq,Nat.reduceLT,Nat.reduceEqDiff,Int.reduceEq,decide_true,decide_false];exact fin_ret hb rfl rfl List.take_length ⟨rfl,rfl⟩
 ·rw[sign_none h];have ne:∀k:Int,7≤k→k≤20→decide (o=k)=false:=fun k h1 h2=>by rw[decide_eq_false_iff_not];omega
  simp -dsimp -implicitDefEqProofs only[aw,slots0,V.copy,eq_self,reduceIte,reduceCtorEq,Nat.reduceBEq,Nat.reduceLT,Nat.reduceEqDiff,ne 7 (by omega) (by omega),ne 8 (by omega) (by omega),ne 9 (by omega) (by omega),ne 10 (by omega) (by omega),ne 11 (by omega) (by omega),ne 12 (by omega) (by omega),ne 13 (by omega) (by omega),ne 14 (by omega) (by omega),ne 15 (by omega) (by omega),ne 16 (by omega) (by omega),ne 17 (by omega) (by omega),ne 18 (by omega) (by omega),ne 19 (by omega) (by omega),ne 20 (by omega) (by omega)];exact fin_ret hb rfl rfl List.take_length ⟨rfl,rfl⟩
theorem r9level_fun(o:Int)(σ:List (List V)):Fun G 153 [.d (dint o)] σ (RetV (.d (dint (levO o))) σ):=by
 refine fun_code Tryz.func153 k153 rfl fun hb hw=>?_;unfold c153;simp -dsimp -implicitDefEqProofs only[aw,slots0,V.copy,V.lend,eq_self,reduceIte,reduceCtorEq,Nat.reduceBEq,Nat.reduceLT];refine fun_ret (sign_fun o _) ?_;unfold signV levO;by_cases h21:o=21
 ·subst h21;rw[if_pos rfl,show binL 21=some (mark2 61 62,2)by decide +kernel];simp -dsimp -implicitDefEqProofs only[aw,V.copy,eq_self,reduceIte,reduceCtorEq,Nat.reduceBEq,Nat.reduceLT,Nat.reduceEqDiff,Int.reduceEq,Int.reduceLT,decide_true,decide_false];first|exact fin_ret hb rfl rfl List.take_length ⟨rfl,rfl⟩|exact fin_ret hb rfl rfl List.take_left ⟨rfl,rfl⟩|(trace_state;fail "fin")
 rw[if_neg h21];cases hB:binL o with
 | some p=>
  obtain⟨m,l⟩:=p;have h0:=(bin_lev _ (binL_some hB)).1;simp only at h0;simp -dsimp -implicitDefEqProofs only[aw,V.copy,eq_self,reduceIte,reduceCtorEq,Nat.reduceBEq,Nat.reduceLT,Nat.reduceEqDiff,decide_eq_true (show(0:Int)<((l:Nat):Int)by omega)];first|exact fin_ret hb rfl rfl List.take_length ⟨rfl,rfl⟩|exact fin_ret hb rfl rfl List.take_left ⟨rfl,rfl⟩|(trace_state;fail "fin")
 | none=>
  simp only;by_cases h22:o=22
  ·rw[if_pos h22];simp -dsimp -implicitDefEqProofs only[aw,V.copy,eq_self,reduceIte,reduceCtorEq,Nat.reduceBEq,Nat.reduceLT,Nat.reduceEqDiff,decide_eq_true h22,Int.reduceLT,decide_false];first|exact fin_ret hb rfl rfl List.take_length ⟨rfl,rfl⟩|exact fin_ret hb rfl rfl List.take_left ⟨rfl,rfl⟩|(trace_state;fail "fin")
  by_cases h23:o=23
  ·rw[if_neg h22,if_pos h23];simp -dsimp -implicitDefEqProofs only[aw,V.copy,V.lend,eq_self,reduceIte,reduceCtorEq,Nat.reduceBEq,Nat.reduceLT,Nat.reduceEqDiff,decide_eq_false h22,decide_eq_false h21,decide_eq_true h23,Int.reduceLT,decide_false];first|exact fin_ret hb rfl rfl List.take_length ⟨rfl,rfl⟩|exact fin_ret hb rfl rfl List.take_left ⟨rfl,rfl⟩|(trace_state;fail "fin")
  simp -dsimp -implicitDefEqProofs only[aw,V.copy,V.lend,eq_self,reduceIte,reduceCtorEq,Nat.reduceBEq,Nat.reduceLT,Nat.reduceEqDiff,decide_eq_false h22,decide_eq_false h21,decide_eq_false h23,Int.reduceLT,decide_false];refine fun_ret (r9prefix_fun o _) ?_;rw[if_neg h22,if_neg h23];by_cases hp:o=4∨o=5∨o=6
  ·have:¬preS o=[]:=fun hn=>(pre_nil _).1 hn hp;have hd:decide (bs (preS o)=(⟨#[]⟩:ByteArray))=false:=by rw[decide_eq_false_iff_not];intro hh;exact this (bs_inj.1 (hh:_=bs []))
   rw[if_pos hp];simp -dsimp -implicitDefEqProofs only[aw,V.copy,eq_self,reduceIte,reduceCtorEq,Nat.reduceBEq,Nat.reduceLT,Nat.reduceEqDiff,hd];first|exact fin_ret hb rfl rfl List.take_length ⟨rfl,rfl⟩|exact fin_ret hb rfl rfl List.take_left ⟨rfl,rfl⟩|(trace_state;fail "fin")
  ·have:preS o=[]:=(pre_nil _).2 hp;rw[if_neg hp,this];simp -dsimp -implicitDefEqProofs only[aw,V.copy,eq_self,reduceIte,reduceCtorEq,Nat.reduceBEq,Nat.reduceLT,Nat.reduceEqDiff,nil_yes];first|exact fin_ret hb rfl rfl List.take_length ⟨rfl,rfl⟩|exact fin_ret hb rfl rfl List.take_left ⟨rfl,rfl⟩|(trace_state;fail "fin")
theorem ix_some(l:Bs)(j:Nat)(c:UInt8)(h:l[j]? = some c):ixV (V.d (dstr (bs l))) (V.d (dint ((j:Nat):Int)))=some (vint .u8 c.toNat):=by
 have h2:(bs l).data.toList[j]? = some c:=by rw[bs_at];exact h
 rw[v_ix_nat,h2];rfl
theorem split_name(l:Bs)(h:nameB (bs l)=true)(σ:List (List V)):Fun G 137 [.d (dstr (bs l))] σ (RetV (.tup [.d (dstr ⟨#[]⟩),.d (dint 0),vbool false]) σ):=by
 have h16:=name_len h;have hw0:=name_word h;rw[bs_list]at h16 hw0;refine fun_code Tryz.func137 k137 rfl fun hb hw=>?_;unfold c137;by_cases h4:l.length<4
 ·have h4':decide (((l.length:Nat):Int)<4)=true:=by rw[decide_eq_true_eq];omega
  simp -dsimp -implicitDefEqProofs only[aw,slots0,V.copy,eq_self,reduceIte,reduceCtorEq,Nat.reduceBEq,Nat.reduceLT,Nat.reduceEqDiff,bs_size,h4'];exact fin_ret hb rfl rfl List.take_length ⟨rfl,rfl⟩
 ·have h4':decide (((l.length:Nat):Int)<4)=false:=by rw[decide_eq_false_iff_not];omega
  have hl:l.length-1<l.length:=by omega
  have hw1:IntKind.i64.wrap (((l.length:Nat):Int)-1)=((l.length-1:Nat):Int):=by rw[wrap_i64 (by omega) (by omega)];omega
  have hx:=ix_some l (l.length-1) _ (List.getElem?_eq_getElem hl)
  have hc:l[l.length-1].toNat≠93:=by
   have hin:inn l[l.length-1]=true:=by
    cases l with
    | nil=>simp at h4
    | cons a r=>
     simp only[wordL,Bool.and_eq_true]at hw0;exact List.all_eq_true.1 hw0.2 _ (List.getElem_mem _)
   intro e;have:l[l.length-1]=93:=UInt8.toNat_inj.1 e;rw[this]at hin;revert hin;decide
  have hc':decide (((l[l.length-1].toNat:Nat):Int)=93)=false:=by rw[decide_eq_false_iff_not];omega
  generalize l[l.length-1]=c at *;simp -dsimp -implicitDefEqProofs only[aw,slots0,V.copy,cond_false,eq_self,reduceIte,reduceCtorEq,Nat.reduceBEq,Nat.reduceLT,Nat.reduceEqDiff,bs_size,h4',hw1,hx,hc'];exact fin_ret hb rfl rfl List.take_length ⟨rfl,rfl⟩
set_option maxHeartbeats 1200000 in
theorem split_elem(x:Bs)(i:Nat)(hi:i<8)(h:nameB (bs x)=true)(σ:List (List V)):Fun G 137 [.d (dstr (bs (x++[91,UInt8.ofNat (48+i),93])))] σ (RetV (.tup [.d (dstr (bs x)),.d (dint i),vbool true]) σ):=by
 have h16:=name_len h;have hw0:=name_word h;rw[bs_list]at h16 hw0
 have h1:1≤x.length:=by cases x with
  | nil=>cases hw0
  | cons a r=>simp
 have hn:=r7isname_fun x;rw[h]at hn;have hlen:(x++[91,UInt8.ofNat (48+i),93]).length=x.length+3:=by simp
 have g1:(x++[91,UInt8.ofNat (48+i),93])[x.length+2]? = some 93:=by rw[List.getElem?_append_right (by omega)];simp
 have g2:(x++[91,UInt8.ofNat (48+i),93])[x.length]? = some 91:=by rw[List.getElem?_append_right (by omega)];simp
 have g3:(x++[91,UInt8.ofNat (48+i),93])[x.length+1]? = some (UInt8.ofNat (48+i)):=by rw[List.getElem?_append_right (by omega)];simp
 have s1:=sub_hi (x++[91,UInt8.ofNat (48+i),93]) x.length (by omega);rw[List.take_left]at s1;have x1:=ix_some _ _ _ g1;have x2:=ix_some _ _ _ g2;have x3:=ix_some _ _ _ g3;rw[dig_byte i (by omega)]at x3;have hw1:IntKind.i64.wrap (((x.length+3:Nat):Int)-1)=((x.length+2:Nat):Int):=by rw[wrap_i64 (by omega) (by omega)];omega
 have hw2:IntKind.i64.wrap (((x.length+3:Nat):Int)-3)=((x.length:Nat):Int):=by rw[wrap_i64 (by omega) (by omega)];omega
 have hw3:IntKind.i64.wrap (((x.length+3:Nat):Int)-2)=((x.length+1:Nat):Int):=by rw[wrap_i64 (by omega) (by omega)];omega
 have hw4:IntKind.i64.wrap ((48+i:Nat):Int)=((48+i:Nat):Int):=wrap_i64 (by omega) (by omega);have hw5:IntKind.i64.wrap (((48+i:Nat):Int)-48)=((i:Nat):Int):=by rw[wrap_i64 (by omega) (by omega)];omega
 have d1:decide (((x.length+3:Nat):Int)<4)=false:=by rw[decide_eq_false_iff_not];omega
 have d2:decide (((i:Nat):Int)<0)=false:=by rw[decide_eq_false_iff_not];omega
 have d3:decide ((8:Int)≤((i:Nat):Int))=false:=by rw[decide_eq_false_iff_not];omega
 have u1:(93:UInt8).toNat=93:=rfl;have u2:(91:UInt8).toNat=91:=rfl;have z:(bs (x++[91,UInt8.ofNat (48+i),93])).size=x.length+3:=by rw[bs_size,hlen]
 rw[u1]at x1;rw[u2]at x2;generalize x++[91,UInt8.ofNat (48+i),93]=T at *;refine fun_code Tryz.func137 k137 rfl fun hb hw=>?_;unfold c137;simp -dsimp -implicitDefEqProofs only[aw,slots0,V.copy,V.lend,cond_false,eq_self,reduceIte,reduceCtorEq,Nat.reduceBEq,Nat.reduceLT,Nat.reduceEqDiff,z,d1,hw1,x1,hw2,x2,hw3,x3,hw4,hw5,s1,d2,d3,show(((93:Nat):Int))=93 from rfl,show(((91:Nat):Int))=91 from rfl,decide_true];refine fun_ret (hn _) ?_;simp -dsimp -implicitDefEqProofs only[aw,V.copy,cond_false,eq_self,reduceIte,Nat.reduceBEq,Nat.reduceLT,Nat.reduceEqDiff];exact fin_ret hb rfl rfl List.take_length ⟨rfl,rfl⟩
end Go.Proofs.YtcbahpllcfbkmaaGreatDoor
