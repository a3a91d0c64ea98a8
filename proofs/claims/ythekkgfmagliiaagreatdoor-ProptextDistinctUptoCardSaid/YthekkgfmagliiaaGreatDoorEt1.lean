import Derived.Test.YthekkgfmagliiaaGreatDoorJoin7
import Derived.Test.YthekkgfmagliiaaGreatDoorQs
import Derived.Test.YthekkgfmagliiaaGreatDoorBr8
set_option linter.unusedVariables false
set_option linter.unusedSimpArgs false
set_option linter.unusedSectionVars false
namespace Go.Proofs.YthekkgfmagliiaaGreatDoor
open Go.RowKit
theorem Nxt.to{n0:Nat}{R:ak→List (List V)→Prop}{ρ:ak}{S:List (List V)}(τ l:List (List V))(h:S=τ++l)(hn:n0≤τ.length)(hb:az τ.length τ=true)(hs:aP τ.length ρ=true)(hR:R ρ τ):Nxt n0 R ρ S .mk:=by
 subst h;exact Nxt.drop hn hb hs hR
theorem cm(a b:Bs)(h:a.length+b.length≤9223372036854775807):aN .add (V.d (an (bs a))) (V.d (an (bs b)))=some (V.d (an (bs (a++b)))):=by
 rw[CL,d8,d8,if_pos h,Bd]
theorem CW{n:Int}(h:0≤n):Lib.itoa n=Lib.decDigits n.toNat:=by
 unfold Lib.itoa;rw[if_neg (by omega)]
theorem DM(k:Nat):∀u:Nat,u<10^(k+1)→(Lib.decDigits u).length≤k+1:=by
 induction k with
 | zero=>intro u h;rw[Lib.decDigits,dif_pos (by simpa using h)];simp
 | succ k ih=>
  intro u h;rw[Lib.decDigits];split
  ·simp
  ·have:=ih (u/10) (by rw[Nat.pow_succ]at h;omega);simp only[List.length_append,List.length_cons,List.length_nil];omega
theorem xH{u:Nat}(h:u≤9223372036854775808):(Lib.decDigits u).length≤19:=DM 18 u (by omega)
theorem Cb{n:Int}(h0 : -9223372036854775808≤n)(h1:n≤9223372036854775807):(Lib.itoa n).length≤20:=by
 unfold Lib.itoa;split
 ·have:=xH (u:=n.natAbs) (by omega);simp only[List.length_cons];omega
 ·have:=xH (u:=n.toNat) (by omega);omega
theorem pT(n:Int)(h0 : -9223372036854775808≤n)(h1:n≤9223372036854775807)(σ:List (List V)):Fun G 135 [.d (ao n)] σ (aG (.d (an (bs (Lib.itoa n)))) σ):=by
 have h5:=Cb h0 h1;refine aD Tryz.func135 Jy rfl fun hb hw=>?_;unfold Ih;simp -dsimp -implicitDefEqProofs only[aw,ac,V.copy,V.lend,V.lend1,V.cells,V.boxable,over,al,ah,ae,ai,V.plain,Nat.reduceLeDiff,cond_true,cond_false,implies_true,eq_self,ne_eq,reduceIte,reduceCtorEq,Nat.reduceBEq,Nat.reduceLT,Nat.reduceEqDiff,Nat.reduceAdd,Nat.reduceSub,Nat.reduceMul];refine aq (oP n h0 h1 (by unfold maxLen;omega) _) ?_;simp -dsimp -implicitDefEqProofs only[aw,ac,V.copy,V.lend,V.lend1,V.cells,V.boxable,over,al,ah,ae,ai,V.plain,Nat.reduceLeDiff,cond_true,cond_false,implies_true,eq_self,ne_eq,reduceIte,reduceCtorEq,Nat.reduceBEq,Nat.reduceLT,Nat.reduceEqDiff,Nat.reduceAdd,Nat.reduceSub,Nat.reduceMul];first|exact am hb rfl rfl List.take_length ⟨rfl,rfl⟩|exact am hb rfl rfl List.take_left ⟨rfl,rfl⟩|(trace_state;fail "fin")
theorem qc(n:Int)(h0:0≤n)(h1:n≤65535)(σ:List (List V)):Fun G 135 [.d (ao n)] σ (aG (.d (an (bs (Lib.decDigits n.toNat)))) σ):=by
 rw[←CW h0];exact pT n (by omega) (by omega) σ
def pm(l:List (ByteArray×Int×Nat)):List (List D):=l.map fun b=>[an b.1,ao b.2.1,ao b.2.2]
theorem qd(σ:List (List V)):Fun G 165 [] σ (aG (.d (.sl (pm cv))) σ):=by
 refine aD Tryz.func165 LW rfl fun hb hw=>?_;unfold I0;simp -dsimp -implicitDefEqProofs only[aw,ac,V.copy,V.lend,V.lend1,V.cells,V.boxable,over,al,ah,ae,ai,V.plain,Nat.reduceLeDiff,cond_true,cond_false,implies_true,eq_self,ne_eq,reduceIte,reduceCtorEq,Nat.reduceBEq,Nat.reduceLT,Nat.reduceEqDiff,Nat.reduceAdd,Nat.reduceSub,Nat.reduceMul];exact am hb rfl rfl List.take_length ⟨rfl,rfl⟩
def nk(l:List (ByteArray×Int×Nat))(o:Int):V:=match l.find? fun b=>decide (b.2.1=o)with
 | some b=>.tup [.agg [.d (an b.1),.d (ao b.2.1),.d (ao b.2.2)],aA true]
 | none=>.tup [.agg [.d (an ⟨#[]⟩),.d (ao 0),.d (ao 0)],aA false]
theorem s7(o:Int)(σ:List (List V)):Fun G 132 [.d (ao o)] σ (aG (nk cv o) σ):=by
 refine aD Tryz.func132 Nr rfl fun hb hw=>?_;unfold JO;have h15:cv.length≤100:=by decide
 simp -dsimp -implicitDefEqProofs only[aw,ac,V.copy,V.lend,V.lend1,V.cells,V.boxable,over,al,ah,ae,ai,V.plain,Nat.reduceLeDiff,cond_true,cond_false,implies_true,eq_self,ne_eq,reduceIte,reduceCtorEq,Nat.reduceBEq,Nat.reduceLT,Nat.reduceEqDiff,Nat.reduceAdd,Nat.reduceSub,Nat.reduceMul];refine aq (qd _) ?_;generalize cv=l at *;simp -dsimp -implicitDefEqProofs only[aw,ac,V.copy,V.lend,V.lend1,V.cells,V.boxable,over,al,ah,ae,ai,V.plain,Nat.reduceLeDiff,cond_true,cond_false,implies_true,eq_self,ne_eq,reduceIte,reduceCtorEq,Nat.reduceBEq,Nat.reduceLT,Nat.reduceEqDiff,Nat.reduceAdd,Nat.reduceSub,Nat.reduceMul,pm]
 refine ce [0,2,6,7,8] (R:=fun(j:Nat) ρ σ'=>ρ=[(0,.d (ao o)),(2,.ptr σ.length 0),(6,.d (.sl (pm l))),(7,aW .i64 l.length),(8,aW .i64 j)]∧σ'=σ++[[.d (an ⟨#[]⟩),.d (ao 0),.d (ao 0)]]∧nk l o=nk (l.drop j) o) l.length ⟨rfl,rfl,rfl⟩ ?_ _;rintro j ρ' σ' hj ⟨rfl,rfl,hr⟩;by_cases hlt:j<l.length
 ·have hd:nk (l.drop j) o=if l[j].2.1=o then .tup [.agg [.d (an l[j].1),.d (ao l[j].2.1),.d (ao l[j].2.2)],aA true]else nk (l.drop (j+1)) o:=by
   rw[List.drop_eq_getElem_cons hlt];unfold nk;rw[List.find?_cons];by_cases h:l[j].2.1=o
   ·simp[h]
   ·simp[h]
  by_cases he:l[j].2.1=o
  ·rw[hd,if_pos he]at hr;rw[hr];simp -dsimp -implicitDefEqProofs only[aw,ac,V.copy,V.lend,V.lend1,V.cells,V.boxable,over,al,ah,ae,ai,V.plain,Nat.reduceLeDiff,cond_true,cond_false,implies_true,eq_self,ne_eq,reduceIte,reduceCtorEq,Nat.reduceBEq,Nat.reduceLT,Nat.reduceEqDiff,Nat.reduceAdd,Nat.reduceSub,Nat.reduceMul,pm,Int.ofNat_lt,hlt,decide_true,List.getElem?_eq_getElem hlt,decide_eq_true he];exact am (v:=.tup [.agg [.d (an l[j].1),.d (ao l[j].2.1),.d (ao l[j].2.2)],aA true]) hb (by simp[BG,lZ,Ag,zc,aw,ac,V.copy,V.lend,V.lend1,V.cells,V.boxable,over,al,ah,ae,ai,V.plain,Nat.reduceLeDiff,cond_true,cond_false,implies_true,eq_self,ne_eq,reduceIte,reduceCtorEq,Nat.reduceBEq,Nat.reduceLT,Nat.reduceEqDiff,Nat.reduceAdd,Nat.reduceSub,Nat.reduceMul]) rfl List.take_left ⟨rfl,rfl⟩
  ·rw[hd,if_neg he]at hr;simp -dsimp -implicitDefEqProofs only[aw,ac,V.copy,V.lend,V.lend1,V.cells,V.boxable,over,al,ah,ae,ai,V.plain,Nat.reduceLeDiff,cond_true,cond_false,implies_true,eq_self,ne_eq,reduceIte,reduceCtorEq,Nat.reduceBEq,Nat.reduceLT,Nat.reduceEqDiff,Nat.reduceAdd,Nat.reduceSub,Nat.reduceMul,pm,Int.ofNat_lt,hlt,decide_true,List.getElem?_eq_getElem hlt,decide_eq_false he,bE hlt (show l.length≤9223372036854775807 by omega)];exact Nxt.to (σ++[[.d (an ⟨#[]⟩),.d (ao 0),.d (ao 0)]]) [[.d (an l[j].1),.d (ao l[j].2.1),.d (ao l[j].2.2)]] (by simp) (by simp) (bj hb rfl) (by simp[aP,V.under]) ⟨rfl,rfl,hr⟩
 ·rw[List.drop_eq_nil_of_le (by omega)]at hr;rw[hr];simp -dsimp -implicitDefEqProofs only[aw,ac,V.copy,V.lend,V.lend1,V.cells,V.boxable,over,al,ah,ae,ai,V.plain,Nat.reduceLeDiff,cond_true,cond_false,implies_true,eq_self,ne_eq,reduceIte,reduceCtorEq,Nat.reduceBEq,Nat.reduceLT,Nat.reduceEqDiff,Nat.reduceAdd,Nat.reduceSub,Nat.reduceMul,Int.ofNat_lt,hlt,decide_false];exact am (v:=.tup [.agg [.d (an ⟨#[]⟩),.d (ao 0),.d (ao 0)],aA false]) hb (by simp[BG,lZ,Ag,zc,aw,ac,V.copy,V.lend,V.lend1,V.cells,V.boxable,over,al,ah,ae,ai,V.plain,Nat.reduceLeDiff,cond_true,cond_false,implies_true,eq_self,ne_eq,reduceIte,reduceCtorEq,Nat.reduceBEq,Nat.reduceLT,Nat.reduceEqDiff,Nat.reduceAdd,Nat.reduceSub,Nat.reduceMul]) rfl List.take_left ⟨rfl,rfl⟩
theorem dw(o:Int)(σ:List (List V)):Fun G 134 [.d (ao o)] σ (aG (.d (an (bs (ig o)))) σ):=by
 refine aD Tryz.func134 Mh rfl fun hb hw=>?_;unfold I5 ig;by_cases h4:o=4
 ·rw[if_pos h4];simp -dsimp -implicitDefEqProofs only[aw,ac,V.copy,V.lend,V.lend1,V.cells,V.boxable,over,al,ah,ae,ai,V.plain,Nat.reduceLeDiff,cond_true,cond_false,implies_true,eq_self,ne_eq,reduceIte,reduceCtorEq,Nat.reduceBEq,Nat.reduceLT,Nat.reduceEqDiff,Nat.reduceAdd,Nat.reduceSub,Nat.reduceMul,decide_eq_true h4];first|exact am hb rfl rfl List.take_length ⟨rfl,rfl⟩|exact am hb rfl rfl List.take_left ⟨rfl,rfl⟩|(trace_state;fail "fin")
 by_cases h5:o=5
 ·rw[if_neg h4,if_pos h5];simp -dsimp -implicitDefEqProofs only[aw,ac,V.copy,V.lend,V.lend1,V.cells,V.boxable,over,al,ah,ae,ai,V.plain,Nat.reduceLeDiff,cond_true,cond_false,implies_true,eq_self,ne_eq,reduceIte,reduceCtorEq,Nat.reduceBEq,Nat.reduceLT,Nat.reduceEqDiff,Nat.reduceAdd,Nat.reduceSub,Nat.reduceMul,decide_eq_false h4,decide_eq_true h5];first|exact am hb rfl rfl List.take_length ⟨rfl,rfl⟩|exact am hb rfl rfl List.take_left ⟨rfl,rfl⟩|(trace_state;fail "fin")
 by_cases h6:o=6
 ·rw[if_neg h4,if_neg h5,if_pos h6];simp -dsimp -implicitDefEqProofs only[aw,ac,V.copy,V.lend,V.lend1,V.cells,V.boxable,over,al,ah,ae,ai,V.plain,Nat.reduceLeDiff,cond_true,cond_false,implies_true,eq_self,ne_eq,reduceIte,reduceCtorEq,Nat.reduceBEq,Nat.reduceLT,Nat.reduceEqDiff,Nat.reduceAdd,Nat.reduceSub,Nat.reduceMul,decide_eq_false h4,decide_eq_false h5,decide_eq_true h6];first|exact am hb rfl rfl List.take_length ⟨rfl,rfl⟩|exact am hb rfl rfl List.take_left ⟨rfl,rfl⟩|(trace_state;fail "fin")
 rw[if_neg h4,if_neg h5,if_neg h6];simp -dsimp -implicitDefEqProofs only[aw,ac,V.copy,V.lend,V.lend1,V.cells,V.boxable,over,al,ah,ae,ai,V.plain,Nat.reduceLeDiff,cond_true,cond_false,implies_true,eq_self,ne_eq,reduceIte,reduceCtorEq,Nat.reduceBEq,Nat.reduceLT,Nat.reduceEqDiff,Nat.reduceAdd,Nat.reduceSub,Nat.reduceMul,decide_eq_false h4,decide_eq_false h5,decide_eq_false h6];first|exact am hb rfl rfl List.take_length ⟨rfl,rfl⟩|exact am hb rfl rfl List.take_left ⟨rfl,rfl⟩|(trace_state;fail "fin")
theorem ui(o:Int):nk cv o=match fD o with
 | some (m,l)=>.tup [.agg [.d (an m),.d (ao o),.d (ao l)],aA true]
 | none=>.tup [.agg [.d (an ⟨#[]⟩),.d (ao 0),.d (ao 0)],aA false]:=by
 unfold nk fD;cases h:cv.find? fun b=>decide (b.2.1=o)with
 | none=>rfl
 | some b=>
  have:=List.find?_some h;simp only[decide_eq_true_eq]at this;simp only[Option.map_some,this]
theorem rU(o:Int):ig o=[]↔¬(o=4∨o=5∨o=6):=by
 unfold ig;repeat' split
 all_goals simp_all
theorem Bf(e:Ex)(σ:List (List V)):Fun G 166 [vex e] σ (aG (.d (ao (jD e.op))) σ):=by
 refine aD Tryz.func166 Nz (by simp only[aR];rfl) fun hb hw=>?_;unfold J7;simp -dsimp -implicitDefEqProofs only[aw,ac,V.copy,V.lend,V.lend1,V.cells,V.boxable,over,al,ah,ae,ai,V.plain,Nat.reduceLeDiff,cond_true,cond_false,implies_true,eq_self,ne_eq,reduceIte,reduceCtorEq,Nat.reduceBEq,Nat.reduceLT,Nat.reduceEqDiff,Nat.reduceAdd,Nat.reduceSub,Nat.reduceMul,aR];refine aq (s7 e.op _) ?_;rw[ui];unfold jD;cases h:fD e.op with
 | some p=>
  obtain⟨m,l⟩:=p;simp -dsimp -implicitDefEqProofs only[aw,ac,V.copy,V.lend,V.lend1,V.cells,V.boxable,over,al,ah,ae,ai,V.plain,Nat.reduceLeDiff,cond_true,cond_false,implies_true,eq_self,ne_eq,reduceIte,reduceCtorEq,Nat.reduceBEq,Nat.reduceLT,Nat.reduceEqDiff,Nat.reduceAdd,Nat.reduceSub,Nat.reduceMul];first|exact am hb rfl rfl List.take_length ⟨rfl,rfl⟩|exact am hb rfl rfl List.take_left ⟨rfl,rfl⟩|(trace_state;fail "fin")
 | none=>
  simp only;by_cases h22:e.op=22
  ·rw[if_pos h22];simp -dsimp -implicitDefEqProofs only[aw,ac,V.copy,V.lend,V.lend1,V.cells,V.boxable,over,al,ah,ae,ai,V.plain,Nat.reduceLeDiff,cond_true,cond_false,implies_true,eq_self,ne_eq,reduceIte,reduceCtorEq,Nat.reduceBEq,Nat.reduceLT,Nat.reduceEqDiff,Nat.reduceAdd,Nat.reduceSub,Nat.reduceMul,decide_eq_true h22];first|exact am hb rfl rfl List.take_length ⟨rfl,rfl⟩|exact am hb rfl rfl List.take_left ⟨rfl,rfl⟩|(trace_state;fail "fin")
  by_cases h23:e.op=23
  ·rw[if_neg h22,if_pos h23];simp -dsimp -implicitDefEqProofs only[aw,ac,V.copy,V.lend,V.lend1,V.cells,V.boxable,over,al,ah,ae,ai,V.plain,Nat.reduceLeDiff,cond_true,cond_false,implies_true,eq_self,ne_eq,reduceIte,reduceCtorEq,Nat.reduceBEq,Nat.reduceLT,Nat.reduceEqDiff,Nat.reduceAdd,Nat.reduceSub,Nat.reduceMul,decide_eq_false h22,decide_eq_true h23];first|exact am hb rfl rfl List.take_length ⟨rfl,rfl⟩|exact am hb rfl rfl List.take_left ⟨rfl,rfl⟩|(trace_state;fail "fin")
  simp -dsimp -implicitDefEqProofs only[aw,ac,V.copy,V.lend,V.lend1,V.cells,V.boxable,over,al,ah,ae,ai,V.plain,Nat.reduceLeDiff,cond_true,cond_false,implies_true,eq_self,ne_eq,reduceIte,reduceCtorEq,Nat.reduceBEq,Nat.reduceLT,Nat.reduceEqDiff,Nat.reduceAdd,Nat.reduceSub,Nat.reduceMul,decide_eq_false h22,decide_eq_false h23];refine aq (dw e.op _) ?_;rw[if_neg h22,if_neg h23];by_cases hp:e.op=4∨e.op=5∨e.op=6
  ·have:¬ig e.op=[]:=fun hn=>(rU _).1 hn hp;have hd:decide (bs (ig e.op)=(⟨#[]⟩:ByteArray))=false:=by rw[decide_eq_false_iff_not];intro hh;exact this (rN.1 (hh:_=bs []))
   rw[if_pos hp];simp -dsimp -implicitDefEqProofs only[aw,ac,V.copy,V.lend,V.lend1,V.cells,V.boxable,over,al,ah,ae,ai,V.plain,Nat.reduceLeDiff,cond_true,cond_false,implies_true,eq_self,ne_eq,reduceIte,reduceCtorEq,Nat.reduceBEq,Nat.reduceLT,Nat.reduceEqDiff,Nat.reduceAdd,Nat.reduceSub,Nat.reduceMul,hd];first|exact am hb rfl rfl List.take_length ⟨rfl,rfl⟩|exact am hb rfl rfl List.take_left ⟨rfl,rfl⟩|(trace_state;fail "fin")
  ·have:ig e.op=[]:=(rU _).2 hp;rw[if_neg hp,this];simp -dsimp -implicitDefEqProofs only[aw,ac,V.copy,V.lend,V.lend1,V.cells,V.boxable,over,al,ah,ae,ai,V.plain,Nat.reduceLeDiff,cond_true,cond_false,implies_true,eq_self,ne_eq,reduceIte,reduceCtorEq,Nat.reduceBEq,Nat.reduceLT,Nat.reduceEqDiff,Nat.reduceAdd,Nat.reduceSub,Nat.reduceMul,gM];first|exact am hb rfl rfl List.take_length ⟨rfl,rfl⟩|exact am hb rfl rfl List.take_left ⟨rfl,rfl⟩|(trace_state;fail "fin")
end Go.Proofs.YthekkgfmagliiaaGreatDoor
