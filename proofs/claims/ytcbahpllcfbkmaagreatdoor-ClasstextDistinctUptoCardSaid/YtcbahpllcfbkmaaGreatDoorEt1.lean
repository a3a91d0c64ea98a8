import Derived.Test.YtcbahpllcfbkmaaGreatDoorPg
import Derived.Test.YtcbahpllcfbkmaaGreatDoorSh
import Derived.Test.YtcbahpllcfbkmaaGreatDoorBr8
set_option linter.unusedVariables false
set_option linter.unusedSimpArgs false
set_option linter.unusedSectionVars false
namespace Go.Proofs.YtcbahpllcfbkmaaGreatDoor
open Go.RowKit
theorem Nxt.to{n0:Nat}{R:am→List (List V)→Prop}{ρ:am}{S:List (List V)}(τ l:List (List V))(h:S=τ++l)(hn:n0≤τ.length)(hb:aB τ.length τ=true)(hs:ax τ.length ρ=true)(hR:R ρ τ):Nxt n0 R ρ S .mk:=by
 subst h;exact Nxt.drop hn hb hs hR
theorem bJ(a b:Bs)(h:a.length+b.length≤9223372036854775807):bg .add (V.d (an (bs a))) (V.d (an (bs b)))=some (V.d (an (bs (a++b)))):=by
 rw[y9,dE,dE,if_pos h,wz]
theorem yq{n:Int}(h:0≤n):Lib.itoa n=Lib.decDigits n.toNat:=by
 unfold Lib.itoa;rw[if_neg (by omega)]
theorem zV(k:Nat):∀u:Nat,u<10^(k+1)→(Lib.decDigits u).length≤k+1:=by
 induction k with
 | zero=>intro u h;rw[Lib.decDigits,dif_pos (by simpa using h)];simp
 | succ k ih=>
  intro u h;rw[Lib.decDigits];split
  ·simp
  ·have:=ih (u/10) (by rw[Nat.pow_succ]at h;omega);simp only[List.length_append,List.length_cons,List.length_nil];omega
theorem uo{u:Nat}(h:u≤9223372036854775808):(Lib.decDigits u).length≤19:=zV 18 u (by omega)
theorem d9{n:Int}(h0 : -9223372036854775808≤n)(h1:n≤9223372036854775807):(Lib.itoa n).length≤20:=by
 unfold Lib.itoa;split
 ·have:=uo (u:=n.natAbs) (by omega);simp only[List.length_cons];omega
 ·have:=uo (u:=n.toNat) (by omega);omega
theorem cz(n:Int)(h0 : -9223372036854775808≤n)(h1:n≤9223372036854775807)(σ:List (List V)):Fun G 42 [.d (az n)] σ (aZ (.d (an (bs (Lib.itoa n)))) σ):=by
 have h5:=d9 h0 h1;refine ay Tryz.func42 k42 rfl fun hb hw=>?_;unfold c42;simp -dsimp -implicitDefEqProofs only[aw,ah,V.copy,V.lend,V.lend1,V.cells,V.boxable,over,ak,ae,ac,ai,V.plain,Nat.reduceLeDiff,cond_true,cond_false,implies_true,eq_self,ne_eq,reduceIte,reduceCtorEq,Nat.reduceBEq,Nat.reduceLT,Nat.reduceEqDiff,Nat.reduceAdd,Nat.reduceSub,Nat.reduceMul];refine aq (zp n h0 h1 (by unfold maxLen;omega) _) ?_;simp -dsimp -implicitDefEqProofs only[aw,ah,V.copy,V.lend,V.lend1,V.cells,V.boxable,over,ak,ae,ac,ai,V.plain,Nat.reduceLeDiff,cond_true,cond_false,implies_true,eq_self,ne_eq,reduceIte,reduceCtorEq,Nat.reduceBEq,Nat.reduceLT,Nat.reduceEqDiff,Nat.reduceAdd,Nat.reduceSub,Nat.reduceMul];first|exact aj hb rfl rfl List.take_length ⟨rfl,rfl⟩|exact aj hb rfl rfl List.take_left ⟨rfl,rfl⟩|(trace_state;fail "fin")
theorem n8(n:Int)(h0:0≤n)(h1:n≤65535)(σ:List (List V)):Fun G 42 [.d (az n)] σ (aZ (.d (an (bs (Lib.decDigits n.toNat)))) σ):=by
 rw[←yq h0];exact cz n (by omega) (by omega) σ
def nM(l:List (ByteArray×Int×Nat)):List (List D):=l.map fun b=>[an b.1,az b.2.1,az b.2.2]
theorem nV(σ:List (List V)):Fun G 169 [] σ (aZ (.d (.sl (nM cj))) σ):=by
 refine ay Tryz.func169 IG rfl fun hb hw=>?_;unfold EU;simp -dsimp -implicitDefEqProofs only[aw,ah,V.copy,V.lend,V.lend1,V.cells,V.boxable,over,ak,ae,ac,ai,V.plain,Nat.reduceLeDiff,cond_true,cond_false,implies_true,eq_self,ne_eq,reduceIte,reduceCtorEq,Nat.reduceBEq,Nat.reduceLT,Nat.reduceEqDiff,Nat.reduceAdd,Nat.reduceSub,Nat.reduceMul];exact aj hb rfl rfl List.take_length ⟨rfl,rfl⟩
def lH(l:List (ByteArray×Int×Nat))(o:Int):V:=match l.find? fun b=>decide (b.2.1=o)with
 | some b=>.tup [.agg [.d (an b.1),.d (az b.2.1),.d (az b.2.2)],aA true]
 | none=>.tup [.agg [.d (an ⟨#[]⟩),.d (az 0),.d (az 0)],aA false]
theorem rn(o:Int)(σ:List (List V)):Fun G 156 [.d (az o)] σ (aZ (lH cj o) σ):=by
 refine ay Tryz.func156 Iy rfl fun hb hw=>?_;unfold FF;have h15:cj.length≤100:=by decide
 simp -dsimp -implicitDefEqProofs only[aw,ah,V.copy,V.lend,V.lend1,V.cells,V.boxable,over,ak,ae,ac,ai,V.plain,Nat.reduceLeDiff,cond_true,cond_false,implies_true,eq_self,ne_eq,reduceIte,reduceCtorEq,Nat.reduceBEq,Nat.reduceLT,Nat.reduceEqDiff,Nat.reduceAdd,Nat.reduceSub,Nat.reduceMul];refine aq (nV _) ?_;generalize cj=l at *;simp -dsimp -implicitDefEqProofs only[aw,ah,V.copy,V.lend,V.lend1,V.cells,V.boxable,over,ak,ae,ac,ai,V.plain,Nat.reduceLeDiff,cond_true,cond_false,implies_true,eq_self,ne_eq,reduceIte,reduceCtorEq,Nat.reduceBEq,Nat.reduceLT,Nat.reduceEqDiff,Nat.reduceAdd,Nat.reduceSub,Nat.reduceMul,nM]
 refine aS [0,2,6,7,8] (R:=fun(j:Nat) ρ σ'=>ρ=[(0,.d (az o)),(2,.ptr σ.length 0),(6,.d (.sl (nM l))),(7,aI .i64 l.length),(8,aI .i64 j)]∧σ'=σ++[[.d (an ⟨#[]⟩),.d (az 0),.d (az 0)]]∧lH l o=lH (l.drop j) o) l.length ⟨rfl,rfl,rfl⟩ ?_ _;rintro j ρ' σ' hj ⟨rfl,rfl,hr⟩;by_cases hlt:j<l.length
 ·have hd:lH (l.drop j) o=if l[j].2.1=o then .tup [.agg [.d (an l[j].1),.d (az l[j].2.1),.d (az l[j].2.2)],aA true]else lH (l.drop (j+1)) o:=by
   rw[List.drop_eq_getElem_cons hlt];unfold lH;rw[List.find?_cons];by_cases h:l[j].2.1=o
   ·simp[h]
   ·simp[h]
  by_cases he:l[j].2.1=o
  ·rw[hd,if_pos he]at hr;rw[hr];simp -dsimp -implicitDefEqProofs only[aw,ah,V.copy,V.lend,V.lend1,V.cells,V.boxable,over,ak,ae,ac,ai,V.plain,Nat.reduceLeDiff,cond_true,cond_false,implies_true,eq_self,ne_eq,reduceIte,reduceCtorEq,Nat.reduceBEq,Nat.reduceLT,Nat.reduceEqDiff,Nat.reduceAdd,Nat.reduceSub,Nat.reduceMul,nM,Int.ofNat_lt,hlt,decide_true,List.getElem?_eq_getElem hlt,decide_eq_true he];exact aj (v:=.tup [.agg [.d (an l[j].1),.d (az l[j].2.1),.d (az l[j].2.2)],aA true]) hb (by simp[zd,nZ,xw,yJ,aw,ah,V.copy,V.lend,V.lend1,V.cells,V.boxable,over,ak,ae,ac,ai,V.plain,Nat.reduceLeDiff,cond_true,cond_false,implies_true,eq_self,ne_eq,reduceIte,reduceCtorEq,Nat.reduceBEq,Nat.reduceLT,Nat.reduceEqDiff,Nat.reduceAdd,Nat.reduceSub,Nat.reduceMul]) rfl List.take_left ⟨rfl,rfl⟩
  ·rw[hd,if_neg he]at hr;simp -dsimp -implicitDefEqProofs only[aw,ah,V.copy,V.lend,V.lend1,V.cells,V.boxable,over,ak,ae,ac,ai,V.plain,Nat.reduceLeDiff,cond_true,cond_false,implies_true,eq_self,ne_eq,reduceIte,reduceCtorEq,Nat.reduceBEq,Nat.reduceLT,Nat.reduceEqDiff,Nat.reduceAdd,Nat.reduceSub,Nat.reduceMul,nM,Int.ofNat_lt,hlt,decide_true,List.getElem?_eq_getElem hlt,decide_eq_false he,aJ hlt (show l.length≤9223372036854775807 by omega)];exact Nxt.to (σ++[[.d (an ⟨#[]⟩),.d (az 0),.d (az 0)]]) [[.d (an l[j].1),.d (az l[j].2.1),.d (az l[j].2.2)]] (by simp) (by simp) (aQ hb rfl) (by simp[ax,V.under]) ⟨rfl,rfl,hr⟩
 ·rw[List.drop_eq_nil_of_le (by omega)]at hr;rw[hr];simp -dsimp -implicitDefEqProofs only[aw,ah,V.copy,V.lend,V.lend1,V.cells,V.boxable,over,ak,ae,ac,ai,V.plain,Nat.reduceLeDiff,cond_true,cond_false,implies_true,eq_self,ne_eq,reduceIte,reduceCtorEq,Nat.reduceBEq,Nat.reduceLT,Nat.reduceEqDiff,Nat.reduceAdd,Nat.reduceSub,Nat.reduceMul,Int.ofNat_lt,hlt,decide_false];exact aj (v:=.tup [.agg [.d (an ⟨#[]⟩),.d (az 0),.d (az 0)],aA false]) hb (by simp[zd,nZ,xw,yJ,aw,ah,V.copy,V.lend,V.lend1,V.cells,V.boxable,over,ak,ae,ac,ai,V.plain,Nat.reduceLeDiff,cond_true,cond_false,implies_true,eq_self,ne_eq,reduceIte,reduceCtorEq,Nat.reduceBEq,Nat.reduceLT,Nat.reduceEqDiff,Nat.reduceAdd,Nat.reduceSub,Nat.reduceMul]) rfl List.take_left ⟨rfl,rfl⟩
theorem cW(o:Int)(σ:List (List V)):Fun G 158 [.d (az o)] σ (aZ (.d (an (bs (fX o)))) σ):=by
 refine ay Tryz.func158 Hs rfl fun hb hw=>?_;unfold Fi fX;by_cases h4:o=4
 ·rw[if_pos h4];simp -dsimp -implicitDefEqProofs only[aw,ah,V.copy,V.lend,V.lend1,V.cells,V.boxable,over,ak,ae,ac,ai,V.plain,Nat.reduceLeDiff,cond_true,cond_false,implies_true,eq_self,ne_eq,reduceIte,reduceCtorEq,Nat.reduceBEq,Nat.reduceLT,Nat.reduceEqDiff,Nat.reduceAdd,Nat.reduceSub,Nat.reduceMul,decide_eq_true h4];first|exact aj hb rfl rfl List.take_length ⟨rfl,rfl⟩|exact aj hb rfl rfl List.take_left ⟨rfl,rfl⟩|(trace_state;fail "fin")
 by_cases h5:o=5
 ·rw[if_neg h4,if_pos h5];simp -dsimp -implicitDefEqProofs only[aw,ah,V.copy,V.lend,V.lend1,V.cells,V.boxable,over,ak,ae,ac,ai,V.plain,Nat.reduceLeDiff,cond_true,cond_false,implies_true,eq_self,ne_eq,reduceIte,reduceCtorEq,Nat.reduceBEq,Nat.reduceLT,Nat.reduceEqDiff,Nat.reduceAdd,Nat.reduceSub,Nat.reduceMul,decide_eq_false h4,decide_eq_true h5];first|exact aj hb rfl rfl List.take_length ⟨rfl,rfl⟩|exact aj hb rfl rfl List.take_left ⟨rfl,rfl⟩|(trace_state;fail "fin")
 by_cases h6:o=6
 ·rw[if_neg h4,if_neg h5,if_pos h6];simp -dsimp -implicitDefEqProofs only[aw,ah,V.copy,V.lend,V.lend1,V.cells,V.boxable,over,ak,ae,ac,ai,V.plain,Nat.reduceLeDiff,cond_true,cond_false,implies_true,eq_self,ne_eq,reduceIte,reduceCtorEq,Nat.reduceBEq,Nat.reduceLT,Nat.reduceEqDiff,Nat.reduceAdd,Nat.reduceSub,Nat.reduceMul,decide_eq_false h4,decide_eq_false h5,decide_eq_true h6];first|exact aj hb rfl rfl List.take_length ⟨rfl,rfl⟩|exact aj hb rfl rfl List.take_left ⟨rfl,rfl⟩|(trace_state;fail "fin")
 rw[if_neg h4,if_neg h5,if_neg h6];simp -dsimp -implicitDefEqProofs only[aw,ah,V.copy,V.lend,V.lend1,V.cells,V.boxable,over,ak,ae,ac,ai,V.plain,Nat.reduceLeDiff,cond_true,cond_false,implies_true,eq_self,ne_eq,reduceIte,reduceCtorEq,Nat.reduceBEq,Nat.reduceLT,Nat.reduceEqDiff,Nat.reduceAdd,Nat.reduceSub,Nat.reduceMul,decide_eq_false h4,decide_eq_false h5,decide_eq_false h6];first|exact aj hb rfl rfl List.take_length ⟨rfl,rfl⟩|exact aj hb rfl rfl List.take_left ⟨rfl,rfl⟩|(trace_state;fail "fin")
theorem ro(o:Int):lH cj o=match eI o with
 | some (m,l)=>.tup [.agg [.d (an m),.d (az o),.d (az l)],aA true]
 | none=>.tup [.agg [.d (an ⟨#[]⟩),.d (az 0),.d (az 0)],aA false]:=by
 unfold lH eI;cases h:cj.find? fun b=>decide (b.2.1=o)with
 | none=>rfl
 | some b=>
  have:=List.find?_some h;simp only[decide_eq_true_eq]at this;simp only[Option.map_some,this]
theorem pF(o:Int):fX o=[]↔¬(o=4∨o=5∨o=6):=by
 unfold fX;repeat' split
 all_goals simp_all
theorem vS(e:Ex)(σ:List (List V)):Fun G 170 [vex e] σ (aZ (.d (az (iU e.op))) σ):=by
 refine ay Tryz.func170 Is (by simp only[be];rfl) fun hb hw=>?_;unfold FE;simp -dsimp -implicitDefEqProofs only[aw,ah,V.copy,V.lend,V.lend1,V.cells,V.boxable,over,ak,ae,ac,ai,V.plain,Nat.reduceLeDiff,cond_true,cond_false,implies_true,eq_self,ne_eq,reduceIte,reduceCtorEq,Nat.reduceBEq,Nat.reduceLT,Nat.reduceEqDiff,Nat.reduceAdd,Nat.reduceSub,Nat.reduceMul,be];refine aq (rn e.op _) ?_;rw[ro];unfold iU;cases h:eI e.op with
 | some p=>
  obtain⟨m,l⟩:=p;simp -dsimp -implicitDefEqProofs only[aw,ah,V.copy,V.lend,V.lend1,V.cells,V.boxable,over,ak,ae,ac,ai,V.plain,Nat.reduceLeDiff,cond_true,cond_false,implies_true,eq_self,ne_eq,reduceIte,reduceCtorEq,Nat.reduceBEq,Nat.reduceLT,Nat.reduceEqDiff,Nat.reduceAdd,Nat.reduceSub,Nat.reduceMul];first|exact aj hb rfl rfl List.take_length ⟨rfl,rfl⟩|exact aj hb rfl rfl List.take_left ⟨rfl,rfl⟩|(trace_state;fail "fin")
 | none=>
  simp only;by_cases h22:e.op=22
  ·rw[if_pos h22];simp -dsimp -implicitDefEqProofs only[aw,ah,V.copy,V.lend,V.lend1,V.cells,V.boxable,over,ak,ae,ac,ai,V.plain,Nat.reduceLeDiff,cond_true,cond_false,implies_true,eq_self,ne_eq,reduceIte,reduceCtorEq,Nat.reduceBEq,Nat.reduceLT,Nat.reduceEqDiff,Nat.reduceAdd,Nat.reduceSub,Nat.reduceMul,decide_eq_true h22];first|exact aj hb rfl rfl List.take_length ⟨rfl,rfl⟩|exact aj hb rfl rfl List.take_left ⟨rfl,rfl⟩|(trace_state;fail "fin")
  by_cases h23:e.op=23
  ·rw[if_neg h22,if_pos h23];simp -dsimp -implicitDefEqProofs only[aw,ah,V.copy,V.lend,V.lend1,V.cells,V.boxable,over,ak,ae,ac,ai,V.plain,Nat.reduceLeDiff,cond_true,cond_false,implies_true,eq_self,ne_eq,reduceIte,reduceCtorEq,Nat.reduceBEq,Nat.reduceLT,Nat.reduceEqDiff,Nat.reduceAdd,Nat.reduceSub,Nat.reduceMul,decide_eq_false h22,decide_eq_true h23];first|exact aj hb rfl rfl List.take_length ⟨rfl,rfl⟩|exact aj hb rfl rfl List.take_left ⟨rfl,rfl⟩|(trace_state;fail "fin")
  simp -dsimp -implicitDefEqProofs only[aw,ah,V.copy,V.lend,V.lend1,V.cells,V.boxable,over,ak,ae,ac,ai,V.plain,Nat.reduceLeDiff,cond_true,cond_false,implies_true,eq_self,ne_eq,reduceIte,reduceCtorEq,Nat.reduceBEq,Nat.reduceLT,Nat.reduceEqDiff,Nat.reduceAdd,Nat.reduceSub,Nat.reduceMul,decide_eq_false h22,decide_eq_false h23];refine aq (cW e.op _) ?_;rw[if_neg h22,if_neg h23];by_cases hp:e.op=4∨e.op=5∨e.op=6
  ·have:¬fX e.op=[]:=fun hn=>(pF _).1 hn hp;have hd:decide (bs (fX e.op)=(⟨#[]⟩:ByteArray))=false:=by rw[decide_eq_false_iff_not];intro hh;exact this (sf.1 (hh:_=bs []))
   rw[if_pos hp];simp -dsimp -implicitDefEqProofs only[aw,ah,V.copy,V.lend,V.lend1,V.cells,V.boxable,over,ak,ae,ac,ai,V.plain,Nat.reduceLeDiff,cond_true,cond_false,implies_true,eq_self,ne_eq,reduceIte,reduceCtorEq,Nat.reduceBEq,Nat.reduceLT,Nat.reduceEqDiff,Nat.reduceAdd,Nat.reduceSub,Nat.reduceMul,hd];first|exact aj hb rfl rfl List.take_length ⟨rfl,rfl⟩|exact aj hb rfl rfl List.take_left ⟨rfl,rfl⟩|(trace_state;fail "fin")
  ·have:fX e.op=[]:=(pF _).2 hp;rw[if_neg hp,this];simp -dsimp -implicitDefEqProofs only[aw,ah,V.copy,V.lend,V.lend1,V.cells,V.boxable,over,ak,ae,ac,ai,V.plain,Nat.reduceLeDiff,cond_true,cond_false,implies_true,eq_self,ne_eq,reduceIte,reduceCtorEq,Nat.reduceBEq,Nat.reduceLT,Nat.reduceEqDiff,Nat.reduceAdd,Nat.reduceSub,Nat.reduceMul,gi];first|exact aj hb rfl rfl List.take_length ⟨rfl,rfl⟩|exact aj hb rfl rfl List.take_left ⟨rfl,rfl⟩|(trace_state;fail "fin")
end Go.Proofs.YtcbahpllcfbkmaaGreatDoor
