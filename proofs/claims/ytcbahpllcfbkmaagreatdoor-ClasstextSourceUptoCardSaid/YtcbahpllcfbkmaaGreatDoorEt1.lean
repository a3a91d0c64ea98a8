import Derived.Test.YtcbahpllcfbkmaaGreatDoorPt
import Derived.Test.YtcbahpllcfbkmaaGreatDoorSh
import Derived.Test.YtcbahpllcfbkmaaGreatDoorBr8
set_option linter.unusedVariables false
set_option linter.unusedSimpArgs false
set_option linter.unusedSectionVars false
namespace Go.Proofs.YtcbahpllcfbkmaaGreatDoor
open Go.RowKit
theorem Nxt.to{n0:Nat}{R:an→List (List V)→Prop}{ρ:an}{S:List (List V)}(τ l:List (List V))(h:S=τ++l)(hn:n0≤τ.length)(hb:aC τ.length τ=true)(hs:au τ.length ρ=true)(hR:R ρ τ):Nxt n0 R ρ S .mk:=by
 subst h;exact Nxt.drop hn hb hs hR
theorem aM(a b:Bs)(h:a.length+b.length≤9223372036854775807):aA .add (V.d (ak (bs a))) (V.d (ak (bs b)))=some (V.d (ak (bs (a++b)))):=by
 rw[u5,bR,bR,if_pos h,te]
theorem nW{n:Int}(h:0≤n):Lib.itoa n=Lib.decDigits n.toNat:=by
 unfold Lib.itoa;rw[if_neg (by omega)]
theorem vN(k:Nat):∀u:Nat,u<10^(k+1)→(Lib.decDigits u).length≤k+1:=by
 induction k with
 | zero=>intro u h;rw[Lib.decDigits,dif_pos (by simpa using h)];simp
 | succ k ih=>
  intro u h;rw[Lib.decDigits];split
  ·simp
  ·have:=ih (u/10) (by rw[Nat.pow_succ]at h;omega);simp only[List.length_append,List.length_cons,List.length_nil];omega
theorem iP{u:Nat}(h:u≤9223372036854775808):(Lib.decDigits u).length≤19:=vN 18 u (by omega)
theorem b8{n:Int}(h0 : -9223372036854775808≤n)(h1:n≤9223372036854775807):(Lib.itoa n).length≤20:=by
 unfold Lib.itoa;split
 ·have:=iP (u:=n.natAbs) (by omega);simp only[List.length_cons];omega
 ·have:=iP (u:=n.toNat) (by omega);omega
theorem co(n:Int)(h0 : -9223372036854775808≤n)(h1:n≤9223372036854775807)(σ:List (List V)):Fun G 42 [.d (ay n)] σ (aN (.d (ak (bs (Lib.itoa n)))) σ):=by
 have h5:=b8 h0 h1;refine aq Tryz.func42 k42 rfl fun hb hw=>?_;unfold c42;simp -dsimp -implicitDefEqProofs only[aw,ah,V.copy,V.lend,V.lend1,V.cells,V.boxable,over,al,ae,ac,ai,V.plain,Nat.reduceLeDiff,cond_true,cond_false,implies_true,eq_self,ne_eq,reduceIte,reduceCtorEq,Nat.reduceBEq,Nat.reduceLT,Nat.reduceEqDiff,Nat.reduceAdd,Nat.reduceSub,Nat.reduceMul];refine am (uG n h0 h1 (by unfold maxLen;omega) _) ?_;simp -dsimp -implicitDefEqProofs only[aw,ah,V.copy,V.lend,V.lend1,V.cells,V.boxable,over,al,ae,ac,ai,V.plain,Nat.reduceLeDiff,cond_true,cond_false,implies_true,eq_self,ne_eq,reduceIte,reduceCtorEq,Nat.reduceBEq,Nat.reduceLT,Nat.reduceEqDiff,Nat.reduceAdd,Nat.reduceSub,Nat.reduceMul];first|exact aj hb rfl rfl List.take_length ⟨rfl,rfl⟩|exact aj hb rfl rfl List.take_left ⟨rfl,rfl⟩|(trace_state;fail "fin")
theorem lX(n:Int)(h0:0≤n)(h1:n≤65535)(σ:List (List V)):Fun G 42 [.d (ay n)] σ (aN (.d (ak (bs (Lib.decDigits n.toNat)))) σ):=by
 rw[←nW h0];exact co n (by omega) (by omega) σ
theorem iT(u:Nat):u≤9223372036854775808→∀σ:List (List V),Fun G 103 [.d (ay (-(u:Int)))] σ (aN (.d (ak (bs (Lib.decDigits u)))) σ):=by
 induction u using Nat.strongRecOn with
 | ind u ih=>
 intro hu σ;have h5:=iP hu;have hrem:(-(u:Int)).tmod 10 = -((u%10:Nat):Int):=by rw[Int.neg_tmod];rfl
 have hquo:(-(u:Int)).tdiv 10 = -((u/10:Nat):Int):=by rw[Int.neg_tdiv];rfl
 have hwq:IntKind.i64.wrap (-((u/10:Nat):Int)) = -((u/10:Nat):Int):=aS (by omega) (by omega);refine aq Tryz.func103 El rfl fun hb hw=>?_;unfold Cf;by_cases h:u<10
 ·have hsub:IntKind.i64.wrap (48 - -(u:Int))=((48+u:Nat):Int):=by rw[aS (by omega) (by omega)];omega
  have hu8:IntKind.u8.wrap ((48+u:Nat):Int)=((48+u:Nat):Int):=by simp[IntKind.wrap,IntKind.bits,IntKind.signed];omega
  have hcb:∀τ:List (List V),oh τ (.d (.sl [[.lit (.int .u8 ((48+u:Nat):Int))]]))=some (.d (ak (bs [UInt8.ofNat (48+u)]))):=fun _=>rfl;have hd:Lib.decDigits u=[UInt8.ofNat (48+u)]:=by rw[Lib.decDigits,dif_pos h]
  rw[hd];simp -dsimp -implicitDefEqProofs only[aw,ah,V.copy,V.lend,V.lend1,V.cells,V.boxable,over,al,ae,ac,ai,V.plain,Nat.reduceLeDiff,cond_true,cond_false,implies_true,eq_self,ne_eq,reduceIte,reduceCtorEq,Nat.reduceBEq,Nat.reduceLT,Nat.reduceEqDiff,Nat.reduceAdd,Nat.reduceSub,Nat.reduceMul,decide_eq_true (show(-10:Int) < -(u:Int)by omega),hsub,hu8,hcb];first|exact aj hb rfl rfl List.take_length ⟨rfl,rfl⟩|exact aj hb rfl rfl List.take_left ⟨rfl,rfl⟩|(trace_state;fail "fin")
 ·have hsub:IntKind.i64.wrap (48 - -((u%10:Nat):Int))=((48+u%10:Nat):Int):=by rw[aS (by omega) (by omega)];omega
  have hu8:IntKind.u8.wrap ((48+u%10:Nat):Int)=((48+u%10:Nat):Int):=by simp[IntKind.wrap,IntKind.bits,IntKind.signed];omega
  have hcb:∀τ:List (List V),oh τ (.d (.sl [[.lit (.int .u8 ((48+u%10:Nat):Int))]]))=some (.d (ak (bs [UInt8.ofNat (48+u%10)]))):=fun _=>rfl;have hd:Lib.decDigits u=Lib.decDigits (u/10)++[UInt8.ofNat (48+u%10)]:=by rw[Lib.decDigits,dif_neg h]
  have h6:=iP (u:=u/10) (by omega);have ha:=aM (Lib.decDigits (u/10)) [UInt8.ofNat (48+u%10)] (by simp only[List.length_cons,List.length_nil];omega);rw[hd];simp -dsimp -implicitDefEqProofs only[aw,ah,V.copy,V.lend,V.lend1,V.cells,V.boxable,over,al,ae,ac,ai,V.plain,Nat.reduceLeDiff,cond_true,cond_false,implies_true,eq_self,ne_eq,reduceIte,reduceCtorEq,Nat.reduceBEq,Nat.reduceLT,Nat.reduceEqDiff,Nat.reduceAdd,Nat.reduceSub,Nat.reduceMul,decide_eq_false (show ¬(-10:Int) < -(u:Int)by omega),hquo,hwq,Int.reduceEq];refine aD (ih (u/10) (by omega) (by omega) _) ?_
  simp -dsimp -implicitDefEqProofs only[aw,ah,V.copy,V.lend,V.lend1,V.cells,V.boxable,over,al,ae,ac,ai,V.plain,Nat.reduceLeDiff,cond_true,cond_false,implies_true,eq_self,ne_eq,reduceIte,reduceCtorEq,Nat.reduceBEq,Nat.reduceLT,Nat.reduceEqDiff,Nat.reduceAdd,Nat.reduceSub,Nat.reduceMul,hrem,hsub,hu8,hcb,ha,Int.reduceEq];first|exact aj hb rfl rfl List.take_length ⟨rfl,rfl⟩|exact aj hb rfl rfl List.take_left ⟨rfl,rfl⟩|(trace_state;fail "fin")
theorem lG(n:Int)(h0 : -9223372036854775808≤n)(h1:n≤9223372036854775807)(σ:List (List V)):Fun G 64 [.d (ay n)] σ (aN (.d (ak (bs (Lib.itoa n)))) σ):=by
 refine aq Tryz.func64 k64 rfl fun hb hw=>?_;unfold c64 Lib.itoa;by_cases hn:n<0
 ·have hd:=iP (u:=n.natAbs) (by omega);have ha:aA .add (V.d (ak ⟨#[45]⟩)) (V.d (ak (bs (Lib.decDigits n.natAbs))))=_:=aM [45] (Lib.decDigits n.natAbs) (by simp only[List.length_cons,List.length_nil];omega);have hr:=iT n.natAbs (by omega);have e : -((n.natAbs:Nat):Int)=n:=by omega
  rw[e]at hr;rw[if_pos hn];simp -dsimp -implicitDefEqProofs only[aw,ah,V.copy,V.lend,V.lend1,V.cells,V.boxable,over,al,ae,ac,ai,V.plain,Nat.reduceLeDiff,cond_true,cond_false,implies_true,eq_self,ne_eq,reduceIte,reduceCtorEq,Nat.reduceBEq,Nat.reduceLT,Nat.reduceEqDiff,Nat.reduceAdd,Nat.reduceSub,Nat.reduceMul,decide_eq_true hn];refine am (hr _) ?_;simp -dsimp -implicitDefEqProofs only[aw,ah,V.copy,V.lend,V.lend1,V.cells,V.boxable,over,al,ae,ac,ai,V.plain,Nat.reduceLeDiff,cond_true,cond_false,implies_true,eq_self,ne_eq,reduceIte,reduceCtorEq,Nat.reduceBEq,Nat.reduceLT,Nat.reduceEqDiff,Nat.reduceAdd,Nat.reduceSub,Nat.reduceMul,ha];first|exact aj hb rfl rfl List.take_length ⟨rfl,rfl⟩|exact aj hb rfl rfl List.take_left ⟨rfl,rfl⟩|(trace_state;fail "fin")
 ·have hw0:IntKind.i64.wrap (0-n) = -(n.toNat:Int):=by rw[aS (by omega) (by omega)];omega
  rw[if_neg hn];simp -dsimp -implicitDefEqProofs only[aw,ah,V.copy,V.lend,V.lend1,V.cells,V.boxable,over,al,ae,ac,ai,V.plain,Nat.reduceLeDiff,cond_true,cond_false,implies_true,eq_self,ne_eq,reduceIte,reduceCtorEq,Nat.reduceBEq,Nat.reduceLT,Nat.reduceEqDiff,Nat.reduceAdd,Nat.reduceSub,Nat.reduceMul,decide_eq_false hn,hw0];refine am (iT n.toNat (by omega) _) ?_;simp -dsimp -implicitDefEqProofs only[aw,ah,V.copy,V.lend,V.lend1,V.cells,V.boxable,over,al,ae,ac,ai,V.plain,Nat.reduceLeDiff,cond_true,cond_false,implies_true,eq_self,ne_eq,reduceIte,reduceCtorEq,Nat.reduceBEq,Nat.reduceLT,Nat.reduceEqDiff,Nat.reduceAdd,Nat.reduceSub,Nat.reduceMul];first|exact aj hb rfl rfl List.take_length ⟨rfl,rfl⟩|exact aj hb rfl rfl List.take_left ⟨rfl,rfl⟩|(trace_state;fail "fin")
theorem iu(n:Int)(h0 : -9223372036854775808≤n)(h1:n≤9223372036854775807)(σ:List (List V)):Fun G 45 [.d (ay n)] σ (aN (.d (ak (bs (Lib.itoa n++[59])))) σ):=by
 have h5:=b8 h0 h1;have ha:aA .add (V.d (ak (bs (Lib.itoa n)))) (V.d (ak ⟨#[59]⟩))=_:=aM (Lib.itoa n) [59] (by simp only[List.length_cons,List.length_nil];omega);refine aq Tryz.func45 k45 rfl fun hb hw=>?_;unfold c45;simp -dsimp -implicitDefEqProofs only[aw,ah,V.copy,V.lend,V.lend1,V.cells,V.boxable,over,al,ae,ac,ai,V.plain,Nat.reduceLeDiff,cond_true,cond_false,implies_true,eq_self,ne_eq,reduceIte,reduceCtorEq,Nat.reduceBEq,Nat.reduceLT,Nat.reduceEqDiff,Nat.reduceAdd,Nat.reduceSub,Nat.reduceMul];refine am (lG n h0 h1 _) ?_;simp -dsimp -implicitDefEqProofs only[aw,ah,V.copy,V.lend,V.lend1,V.cells,V.boxable,over,al,ae,ac,ai,V.plain,Nat.reduceLeDiff,cond_true,cond_false,implies_true,eq_self,ne_eq,reduceIte,reduceCtorEq,Nat.reduceBEq,Nat.reduceLT,Nat.reduceEqDiff,Nat.reduceAdd,Nat.reduceSub,Nat.reduceMul,ha]
 first|exact aj hb rfl rfl List.take_length ⟨rfl,rfl⟩|exact aj hb rfl rfl List.take_left ⟨rfl,rfl⟩|(trace_state;fail "fin")
theorem nu(n:Int)(h0:0≤n)(h1:n≤65535)(σ:List (List V)):Fun G 45 [.d (ay n)] σ (aN (.d (ak (bs (Lib.decDigits n.toNat++[59])))) σ):=by
 rw[←nW h0];exact iu n (by omega) (by omega) σ
theorem ik(n:Int)(h0:0≤n)(h1:n≤65535)(σ:List (List V)):Fun G 138 [.d (ay n)] σ (aN (.d (ak (bs (Lib.decDigits n.toNat)))) σ):=by
 have h5:=ey n.toNat (by omega);refine aq Tryz.func138 Fv rfl fun hb hw=>?_;unfold Cj;have hl:(Lib.decDigits n.toNat++[59]).length=(Lib.decDigits n.toNat).length+1:=by simp
 have hw1:IntKind.i64.wrap ((((Lib.decDigits n.toNat++[59]).length:Nat):Int)-1)=(((Lib.decDigits n.toNat).length:Nat):Int):=by rw[hl,aS (by omega) (by omega)];omega
 have hs:=lN (Lib.decDigits n.toNat++[59]) (Lib.decDigits n.toNat).length (by rw[hl];omega);rw[List.take_left]at hs;simp -dsimp -implicitDefEqProofs only[aw,ah,V.copy,V.lend,V.lend1,V.cells,V.boxable,over,al,ae,ac,ai,V.plain,Nat.reduceLeDiff,cond_true,cond_false,implies_true,eq_self,ne_eq,reduceIte,reduceCtorEq,Nat.reduceBEq,Nat.reduceLT,Nat.reduceEqDiff,Nat.reduceAdd,Nat.reduceSub,Nat.reduceMul];refine am (nu n h0 h1 _) ?_;generalize Lib.decDigits n.toNat=ds at *;generalize ds++[59]=dt at *;simp -dsimp -implicitDefEqProofs only[aw,ah,V.copy,V.lend,V.lend1,V.cells,V.boxable,over,al,ae,ac,ai,V.plain,Nat.reduceLeDiff,cond_true,cond_false,implies_true,eq_self,ne_eq,reduceIte,reduceCtorEq,Nat.reduceBEq,Nat.reduceLT,Nat.reduceEqDiff,Nat.reduceAdd,Nat.reduceSub,Nat.reduceMul,bR,hw1,hs]
 first|exact aj hb rfl rfl List.take_length ⟨rfl,rfl⟩|exact aj hb rfl rfl List.take_left ⟨rfl,rfl⟩|(trace_state;fail "fin")
def kM(l:List (ByteArray×Int×Nat)):List (List D):=l.map fun b=>[ak b.1,ay b.2.1,ay b.2.2]
theorem mc(σ:List (List V)):Fun G 169 [] σ (aN (.d (.sl (kM eS))) σ):=by
 refine aq Tryz.func169 DY rfl fun hb hw=>?_;unfold Cu;simp -dsimp -implicitDefEqProofs only[aw,ah,V.copy,V.lend,V.lend1,V.cells,V.boxable,over,al,ae,ac,ai,V.plain,Nat.reduceLeDiff,cond_true,cond_false,implies_true,eq_self,ne_eq,reduceIte,reduceCtorEq,Nat.reduceBEq,Nat.reduceLT,Nat.reduceEqDiff,Nat.reduceAdd,Nat.reduceSub,Nat.reduceMul];exact aj hb rfl rfl List.take_length ⟨rfl,rfl⟩
def jZ(l:List (ByteArray×Int×Nat))(o:Int):V:=match l.find? fun b=>decide (b.2.1=o)with
 | some b=>.tup [.agg [.d (ak b.1),.d (ay b.2.1),.d (ay b.2.2)],aB true]
 | none=>.tup [.agg [.d (ak ⟨#[]⟩),.d (ay 0),.d (ay 0)],aB false]
theorem o6(o:Int)(σ:List (List V)):Fun G 156 [.d (ay o)] σ (aN (jZ eS o) σ):=by
 refine aq Tryz.func156 D4 rfl fun hb hw=>?_;unfold De;have h15:eS.length≤100:=by decide
 simp -dsimp -implicitDefEqProofs only[aw,ah,V.copy,V.lend,V.lend1,V.cells,V.boxable,over,al,ae,ac,ai,V.plain,Nat.reduceLeDiff,cond_true,cond_false,implies_true,eq_self,ne_eq,reduceIte,reduceCtorEq,Nat.reduceBEq,Nat.reduceLT,Nat.reduceEqDiff,Nat.reduceAdd,Nat.reduceSub,Nat.reduceMul];refine am (mc _) ?_;generalize eS=l at *;simp -dsimp -implicitDefEqProofs only[aw,ah,V.copy,V.lend,V.lend1,V.cells,V.boxable,over,al,ae,ac,ai,V.plain,Nat.reduceLeDiff,cond_true,cond_false,implies_true,eq_self,ne_eq,reduceIte,reduceCtorEq,Nat.reduceBEq,Nat.reduceLT,Nat.reduceEqDiff,Nat.reduceAdd,Nat.reduceSub,Nat.reduceMul,kM]
 refine aT [0,2,6,7,8] (R:=fun(j:Nat) ρ σ'=>ρ=[(0,.d (ay o)),(2,.ptr σ.length 0),(6,.d (.sl (kM l))),(7,aK .i64 l.length),(8,aK .i64 j)]∧σ'=σ++[[.d (ak ⟨#[]⟩),.d (ay 0),.d (ay 0)]]∧jZ l o=jZ (l.drop j) o) l.length ⟨rfl,rfl,rfl⟩ ?_ _;rintro j ρ' σ' hj ⟨rfl,rfl,hr⟩;by_cases hlt:j<l.length
 ·have hd:jZ (l.drop j) o=if l[j].2.1=o then .tup [.agg [.d (ak l[j].1),.d (ay l[j].2.1),.d (ay l[j].2.2)],aB true]else jZ (l.drop (j+1)) o:=by
   rw[List.drop_eq_getElem_cons hlt];unfold jZ;rw[List.find?_cons];by_cases h:l[j].2.1=o
   ·simp[h]
   ·simp[h]
  by_cases he:l[j].2.1=o
  ·rw[hd,if_pos he]at hr;rw[hr];simp -dsimp -implicitDefEqProofs only[aw,ah,V.copy,V.lend,V.lend1,V.cells,V.boxable,over,al,ae,ac,ai,V.plain,Nat.reduceLeDiff,cond_true,cond_false,implies_true,eq_self,ne_eq,reduceIte,reduceCtorEq,Nat.reduceBEq,Nat.reduceLT,Nat.reduceEqDiff,Nat.reduceAdd,Nat.reduceSub,Nat.reduceMul,kM,Int.ofNat_lt,hlt,decide_true,List.getElem?_eq_getElem hlt,decide_eq_true he];exact aj (v:=.tup [.agg [.d (ak l[j].1),.d (ay l[j].2.1),.d (ay l[j].2.2)],aB true]) hb (by simp[vP,lV,sU,xd,aw,ah,V.copy,V.lend,V.lend1,V.cells,V.boxable,over,al,ae,ac,ai,V.plain,Nat.reduceLeDiff,cond_true,cond_false,implies_true,eq_self,ne_eq,reduceIte,reduceCtorEq,Nat.reduceBEq,Nat.reduceLT,Nat.reduceEqDiff,Nat.reduceAdd,Nat.reduceSub,Nat.reduceMul]) rfl List.take_left ⟨rfl,rfl⟩
  ·rw[hd,if_neg he]at hr;simp -dsimp -implicitDefEqProofs only[aw,ah,V.copy,V.lend,V.lend1,V.cells,V.boxable,over,al,ae,ac,ai,V.plain,Nat.reduceLeDiff,cond_true,cond_false,implies_true,eq_self,ne_eq,reduceIte,reduceCtorEq,Nat.reduceBEq,Nat.reduceLT,Nat.reduceEqDiff,Nat.reduceAdd,Nat.reduceSub,Nat.reduceMul,kM,Int.ofNat_lt,hlt,decide_true,List.getElem?_eq_getElem hlt,decide_eq_false he,aJ hlt (show l.length≤9223372036854775807 by omega)];exact Nxt.to (σ++[[.d (ak ⟨#[]⟩),.d (ay 0),.d (ay 0)]]) [[.d (ak l[j].1),.d (ay l[j].2.1),.d (ay l[j].2.2)]] (by simp) (by simp) (aV hb rfl) (by simp[au,V.under]) ⟨rfl,rfl,hr⟩
 ·rw[List.drop_eq_nil_of_le (by omega)]at hr;rw[hr];simp -dsimp -implicitDefEqProofs only[aw,ah,V.copy,V.lend,V.lend1,V.cells,V.boxable,over,al,ae,ac,ai,V.plain,Nat.reduceLeDiff,cond_true,cond_false,implies_true,eq_self,ne_eq,reduceIte,reduceCtorEq,Nat.reduceBEq,Nat.reduceLT,Nat.reduceEqDiff,Nat.reduceAdd,Nat.reduceSub,Nat.reduceMul,Int.ofNat_lt,hlt,decide_false];exact aj (v:=.tup [.agg [.d (ak ⟨#[]⟩),.d (ay 0),.d (ay 0)],aB false]) hb (by simp[vP,lV,sU,xd,aw,ah,V.copy,V.lend,V.lend1,V.cells,V.boxable,over,al,ae,ac,ai,V.plain,Nat.reduceLeDiff,cond_true,cond_false,implies_true,eq_self,ne_eq,reduceIte,reduceCtorEq,Nat.reduceBEq,Nat.reduceLT,Nat.reduceEqDiff,Nat.reduceAdd,Nat.reduceSub,Nat.reduceMul]) rfl List.take_left ⟨rfl,rfl⟩
theorem cP(o:Int)(σ:List (List V)):Fun G 158 [.d (ay o)] σ (aN (.d (ak (bs (cN o)))) σ):=by
 refine aq Tryz.func158 Fz rfl fun hb hw=>?_;unfold Ds cN;by_cases h4:o=4
 ·rw[if_pos h4];simp -dsimp -implicitDefEqProofs only[aw,ah,V.copy,V.lend,V.lend1,V.cells,V.boxable,over,al,ae,ac,ai,V.plain,Nat.reduceLeDiff,cond_true,cond_false,implies_true,eq_self,ne_eq,reduceIte,reduceCtorEq,Nat.reduceBEq,Nat.reduceLT,Nat.reduceEqDiff,Nat.reduceAdd,Nat.reduceSub,Nat.reduceMul,decide_eq_true h4];first|exact aj hb rfl rfl List.take_length ⟨rfl,rfl⟩|exact aj hb rfl rfl List.take_left ⟨rfl,rfl⟩|(trace_state;fail "fin")
 by_cases h5:o=5
 ·rw[if_neg h4,if_pos h5];simp -dsimp -implicitDefEqProofs only[aw,ah,V.copy,V.lend,V.lend1,V.cells,V.boxable,over,al,ae,ac,ai,V.plain,Nat.reduceLeDiff,cond_true,cond_false,implies_true,eq_self,ne_eq,reduceIte,reduceCtorEq,Nat.reduceBEq,Nat.reduceLT,Nat.reduceEqDiff,Nat.reduceAdd,Nat.reduceSub,Nat.reduceMul,decide_eq_false h4,decide_eq_true h5];first|exact aj hb rfl rfl List.take_length ⟨rfl,rfl⟩|exact aj hb rfl rfl List.take_left ⟨rfl,rfl⟩|(trace_state;fail "fin")
 by_cases h6:o=6
 ·rw[if_neg h4,if_neg h5,if_pos h6];simp -dsimp -implicitDefEqProofs only[aw,ah,V.copy,V.lend,V.lend1,V.cells,V.boxable,over,al,ae,ac,ai,V.plain,Nat.reduceLeDiff,cond_true,cond_false,implies_true,eq_self,ne_eq,reduceIte,reduceCtorEq,Nat.reduceBEq,Nat.reduceLT,Nat.reduceEqDiff,Nat.reduceAdd,Nat.reduceSub,Nat.reduceMul,decide_eq_false h4,decide_eq_false h5,decide_eq_true h6];first|exact aj hb rfl rfl List.take_length ⟨rfl,rfl⟩|exact aj hb rfl rfl List.take_left ⟨rfl,rfl⟩|(trace_state;fail "fin")
 rw[if_neg h4,if_neg h5,if_neg h6];simp -dsimp -implicitDefEqProofs only[aw,ah,V.copy,V.lend,V.lend1,V.cells,V.boxable,over,al,ae,ac,ai,V.plain,Nat.reduceLeDiff,cond_true,cond_false,implies_true,eq_self,ne_eq,reduceIte,reduceCtorEq,Nat.reduceBEq,Nat.reduceLT,Nat.reduceEqDiff,Nat.reduceAdd,Nat.reduceSub,Nat.reduceMul,decide_eq_false h4,decide_eq_false h5,decide_eq_false h6];first|exact aj hb rfl rfl List.take_length ⟨rfl,rfl⟩|exact aj hb rfl rfl List.take_left ⟨rfl,rfl⟩|(trace_state;fail "fin")
theorem bS(o:Int)(σ:List (List V)):Fun G 136 [.d (ay o)] σ (aN (.d (ak (bs (cN o)))) σ):=by
 refine aq Tryz.func136 D7 rfl fun hb hw=>?_;unfold DT cN;by_cases h4:o=4
 ·rw[if_pos h4];simp -dsimp -implicitDefEqProofs only[aw,ah,V.copy,V.lend,V.lend1,V.cells,V.boxable,over,al,ae,ac,ai,V.plain,Nat.reduceLeDiff,cond_true,cond_false,implies_true,eq_self,ne_eq,reduceIte,reduceCtorEq,Nat.reduceBEq,Nat.reduceLT,Nat.reduceEqDiff,Nat.reduceAdd,Nat.reduceSub,Nat.reduceMul,decide_eq_true h4];first|exact aj hb rfl rfl List.take_length ⟨rfl,rfl⟩|exact aj hb rfl rfl List.take_left ⟨rfl,rfl⟩|(trace_state;fail "fin")
 by_cases h5:o=5
 ·rw[if_neg h4,if_pos h5];simp -dsimp -implicitDefEqProofs only[aw,ah,V.copy,V.lend,V.lend1,V.cells,V.boxable,over,al,ae,ac,ai,V.plain,Nat.reduceLeDiff,cond_true,cond_false,implies_true,eq_self,ne_eq,reduceIte,reduceCtorEq,Nat.reduceBEq,Nat.reduceLT,Nat.reduceEqDiff,Nat.reduceAdd,Nat.reduceSub,Nat.reduceMul,decide_eq_false h4,decide_eq_true h5];first|exact aj hb rfl rfl List.take_length ⟨rfl,rfl⟩|exact aj hb rfl rfl List.take_left ⟨rfl,rfl⟩|(trace_state;fail "fin")
 by_cases h6:o=6
 ·rw[if_neg h4,if_neg h5,if_pos h6];simp -dsimp -implicitDefEqProofs only[aw,ah,V.copy,V.lend,V.lend1,V.cells,V.boxable,over,al,ae,ac,ai,V.plain,Nat.reduceLeDiff,cond_true,cond_false,implies_true,eq_self,ne_eq,reduceIte,reduceCtorEq,Nat.reduceBEq,Nat.reduceLT,Nat.reduceEqDiff,Nat.reduceAdd,Nat.reduceSub,Nat.reduceMul,decide_eq_false h4,decide_eq_false h5,decide_eq_true h6];first|exact aj hb rfl rfl List.take_length ⟨rfl,rfl⟩|exact aj hb rfl rfl List.take_left ⟨rfl,rfl⟩|(trace_state;fail "fin")
 rw[if_neg h4,if_neg h5,if_neg h6];simp -dsimp -implicitDefEqProofs only[aw,ah,V.copy,V.lend,V.lend1,V.cells,V.boxable,over,al,ae,ac,ai,V.plain,Nat.reduceLeDiff,cond_true,cond_false,implies_true,eq_self,ne_eq,reduceIte,reduceCtorEq,Nat.reduceBEq,Nat.reduceLT,Nat.reduceEqDiff,Nat.reduceAdd,Nat.reduceSub,Nat.reduceMul,decide_eq_false h4,decide_eq_false h5,decide_eq_false h6];first|exact aj hb rfl rfl List.take_length ⟨rfl,rfl⟩|exact aj hb rfl rfl List.take_left ⟨rfl,rfl⟩|(trace_state;fail "fin")
theorem pg(o:Int):jZ eS o=match dU o with
 | some (m,l)=>.tup [.agg [.d (ak m),.d (ay o),.d (ay l)],aB true]
 | none=>.tup [.agg [.d (ak ⟨#[]⟩),.d (ay 0),.d (ay 0)],aB false]:=by
 unfold jZ dU;cases h:eS.find? fun b=>decide (b.2.1=o)with
 | none=>rfl
 | some b=>
  have:=List.find?_some h;simp only[decide_eq_true_eq]at this;simp only[Option.map_some,this]
theorem gU(o:Int):cN o=[]↔¬(o=4∨o=5∨o=6):=by
 unfold cN;repeat' split
 all_goals simp_all
theorem tU(e:Ex)(σ:List (List V)):Fun G 170 [vex e] σ (aN (.d (ay (kj e.op))) σ):=by
 refine aq Tryz.func170 EU (by simp only[aI];rfl) fun hb hw=>?_;unfold Dg;simp -dsimp -implicitDefEqProofs only[aw,ah,V.copy,V.lend,V.lend1,V.cells,V.boxable,over,al,ae,ac,ai,V.plain,Nat.reduceLeDiff,cond_true,cond_false,implies_true,eq_self,ne_eq,reduceIte,reduceCtorEq,Nat.reduceBEq,Nat.reduceLT,Nat.reduceEqDiff,Nat.reduceAdd,Nat.reduceSub,Nat.reduceMul,aI];refine am (o6 e.op _) ?_;rw[pg];unfold kj;cases h:dU e.op with
 | some p=>
  obtain⟨m,l⟩:=p;simp -dsimp -implicitDefEqProofs only[aw,ah,V.copy,V.lend,V.lend1,V.cells,V.boxable,over,al,ae,ac,ai,V.plain,Nat.reduceLeDiff,cond_true,cond_false,implies_true,eq_self,ne_eq,reduceIte,reduceCtorEq,Nat.reduceBEq,Nat.reduceLT,Nat.reduceEqDiff,Nat.reduceAdd,Nat.reduceSub,Nat.reduceMul];first|exact aj hb rfl rfl List.take_length ⟨rfl,rfl⟩|exact aj hb rfl rfl List.take_left ⟨rfl,rfl⟩|(trace_state;fail "fin")
 | none=>
  simp only;by_cases h22:e.op=22
  ·rw[if_pos h22];simp -dsimp -implicitDefEqProofs only[aw,ah,V.copy,V.lend,V.lend1,V.cells,V.boxable,over,al,ae,ac,ai,V.plain,Nat.reduceLeDiff,cond_true,cond_false,implies_true,eq_self,ne_eq,reduceIte,reduceCtorEq,Nat.reduceBEq,Nat.reduceLT,Nat.reduceEqDiff,Nat.reduceAdd,Nat.reduceSub,Nat.reduceMul,decide_eq_true h22];first|exact aj hb rfl rfl List.take_length ⟨rfl,rfl⟩|exact aj hb rfl rfl List.take_left ⟨rfl,rfl⟩|(trace_state;fail "fin")
  by_cases h23:e.op=23
  ·rw[if_neg h22,if_pos h23];simp -dsimp -implicitDefEqProofs only[aw,ah,V.copy,V.lend,V.lend1,V.cells,V.boxable,over,al,ae,ac,ai,V.plain,Nat.reduceLeDiff,cond_true,cond_false,implies_true,eq_self,ne_eq,reduceIte,reduceCtorEq,Nat.reduceBEq,Nat.reduceLT,Nat.reduceEqDiff,Nat.reduceAdd,Nat.reduceSub,Nat.reduceMul,decide_eq_false h22,decide_eq_true h23];first|exact aj hb rfl rfl List.take_length ⟨rfl,rfl⟩|exact aj hb rfl rfl List.take_left ⟨rfl,rfl⟩|(trace_state;fail "fin")
  simp -dsimp -implicitDefEqProofs only[aw,ah,V.copy,V.lend,V.lend1,V.cells,V.boxable,over,al,ae,ac,ai,V.plain,Nat.reduceLeDiff,cond_true,cond_false,implies_true,eq_self,ne_eq,reduceIte,reduceCtorEq,Nat.reduceBEq,Nat.reduceLT,Nat.reduceEqDiff,Nat.reduceAdd,Nat.reduceSub,Nat.reduceMul,decide_eq_false h22,decide_eq_false h23];refine am (cP e.op _) ?_;rw[if_neg h22,if_neg h23];by_cases hp:e.op=4∨e.op=5∨e.op=6
  ·have:¬cN e.op=[]:=fun hn=>(gU _).1 hn hp;have hd:decide (bs (cN e.op)=(⟨#[]⟩:ByteArray))=false:=by rw[decide_eq_false_iff_not];intro hh;exact this (jC.1 (hh:_=bs []))
   rw[if_pos hp];simp -dsimp -implicitDefEqProofs only[aw,ah,V.copy,V.lend,V.lend1,V.cells,V.boxable,over,al,ae,ac,ai,V.plain,Nat.reduceLeDiff,cond_true,cond_false,implies_true,eq_self,ne_eq,reduceIte,reduceCtorEq,Nat.reduceBEq,Nat.reduceLT,Nat.reduceEqDiff,Nat.reduceAdd,Nat.reduceSub,Nat.reduceMul,hd];first|exact aj hb rfl rfl List.take_length ⟨rfl,rfl⟩|exact aj hb rfl rfl List.take_left ⟨rfl,rfl⟩|(trace_state;fail "fin")
  ·have:cN e.op=[]:=(gU _).2 hp;rw[if_neg hp,this];simp -dsimp -implicitDefEqProofs only[aw,ah,V.copy,V.lend,V.lend1,V.cells,V.boxable,over,al,ae,ac,ai,V.plain,Nat.reduceLeDiff,cond_true,cond_false,implies_true,eq_self,ne_eq,reduceIte,reduceCtorEq,Nat.reduceBEq,Nat.reduceLT,Nat.reduceEqDiff,Nat.reduceAdd,Nat.reduceSub,Nat.reduceMul,cv];first|exact aj hb rfl rfl List.take_length ⟨rfl,rfl⟩|exact aj hb rfl rfl List.take_left ⟨rfl,rfl⟩|(trace_state;fail "fin")
end Go.Proofs.YtcbahpllcfbkmaaGreatDoor
