import Derived.Test.YthekkgfmagliiaaGreatDoorJoin7
import Derived.Test.YthekkgfmagliiaaGreatDoorSh
import Derived.Test.YthekkgfmagliiaaGreatDoorBr8
set_option linter.unusedVariables false
set_option linter.unusedSimpArgs false
set_option linter.unusedSectionVars false
namespace Go.Proofs.YthekkgfmagliiaaGreatDoor
open Go.RowKit
theorem Nxt.to{n0:Nat}{R:am→List (List V)→Prop}{ρ:am}{S:List (List V)}(τ l:List (List V))(h:S=τ++l)(hn:n0≤τ.length)(hb:aC τ.length τ=true)(hs:aN τ.length ρ=true)(hR:R ρ τ):Nxt n0 R ρ S .mk:=by
 subst h;exact Nxt.drop hn hb hs hR
theorem aR(a b:Bs)(h:a.length+b.length≤9223372036854775807):aA .add (V.d (ak (bs a))) (V.d (ak (bs b)))=some (V.d (ak (bs (a++b)))):=by
 rw[xx,bQ,bQ,if_pos h,uS]
theorem pT{n:Int}(h:0≤n):Lib.itoa n=Lib.decDigits n.toNat:=by
 unfold Lib.itoa;rw[if_neg (by omega)]
theorem wN(k:Nat):∀u:Nat,u<10^(k+1)→(Lib.decDigits u).length≤k+1:=by
 induction k with
 | zero=>intro u h;rw[Lib.decDigits,dif_pos (by simpa using h)];simp
 | succ k ih=>
  intro u h;rw[Lib.decDigits];split
  ·simp
  ·have:=ih (u/10) (by rw[Nat.pow_succ]at h;omega);simp only[List.length_append,List.length_cons,List.length_nil];omega
theorem iV{u:Nat}(h:u≤9223372036854775808):(Lib.decDigits u).length≤19:=wN 18 u (by omega)
theorem pD{n:Int}(h0 : -9223372036854775808≤n)(h1:n≤9223372036854775807):(Lib.itoa n).length≤20:=by
 unfold Lib.itoa;split
 ·have:=iV (u:=n.natAbs) (by omega);simp only[List.length_cons];omega
 ·have:=iV (u:=n.toNat) (by omega);omega
theorem lq(n:Int)(h0 : -9223372036854775808≤n)(h1:n≤9223372036854775807)(σ:List (List V)):Fun G 135 [.d (an n)] σ (aB (.d (ak (bs (Lib.itoa n)))) σ):=by
 have h5:=pD h0 h1;refine ax Tryz.func135 FN rfl fun hb hw=>?_;unfold DT;simp -dsimp -implicitDefEqProofs only[aw,ac,V.copy,V.lend,V.lend1,V.cells,V.boxable,over,al,ah,ae,ai,V.plain,Nat.reduceLeDiff,cond_true,cond_false,implies_true,eq_self,ne_eq,reduceIte,reduceCtorEq,Nat.reduceBEq,Nat.reduceLT,Nat.reduceEqDiff,Nat.reduceAdd,Nat.reduceSub,Nat.reduceMul];refine ao (lr n h0 h1 (by unfold maxLen;omega) _) ?_;simp -dsimp -implicitDefEqProofs only[aw,ac,V.copy,V.lend,V.lend1,V.cells,V.boxable,over,al,ah,ae,ai,V.plain,Nat.reduceLeDiff,cond_true,cond_false,implies_true,eq_self,ne_eq,reduceIte,reduceCtorEq,Nat.reduceBEq,Nat.reduceLT,Nat.reduceEqDiff,Nat.reduceAdd,Nat.reduceSub,Nat.reduceMul];first|exact aj hb rfl rfl List.take_length ⟨rfl,rfl⟩|exact aj hb rfl rfl List.take_left ⟨rfl,rfl⟩|(trace_state;fail "fin")
theorem mL(n:Int)(h0:0≤n)(h1:n≤65535)(σ:List (List V)):Fun G 135 [.d (an n)] σ (aB (.d (ak (bs (Lib.decDigits n.toNat)))) σ):=by
 rw[←pT h0];exact lq n (by omega) (by omega) σ
theorem jo(u:Nat):u≤9223372036854775808→∀σ:List (List V),Fun G 205 [.d (an (-(u:Int)))] σ (aB (.d (ak (bs (Lib.decDigits u)))) σ):=by
 induction u using Nat.strongRecOn with
 | ind u ih=>
 intro hu σ;have h5:=iV hu;have hrem:(-(u:Int)).tmod 10 = -((u%10:Nat):Int):=by rw[Int.neg_tmod];rfl
 have hquo:(-(u:Int)).tdiv 10 = -((u/10:Nat):Int):=by rw[Int.neg_tdiv];rfl
 have hwq:IntKind.i64.wrap (-((u/10:Nat):Int)) = -((u/10:Nat):Int):=bd (by omega) (by omega);refine ax Tryz.func205 Ki rfl fun hb hw=>?_;unfold GL;by_cases h:u<10
 ·have hsub:IntKind.i64.wrap (48 - -(u:Int))=((48+u:Nat):Int):=by rw[bd (by omega) (by omega)];omega
  have hu8:IntKind.u8.wrap ((48+u:Nat):Int)=((48+u:Nat):Int):=by simp[IntKind.wrap,IntKind.bits,IntKind.signed];omega
  have hcb:∀τ:List (List V),p6 τ (.d (.sl [[.lit (.int .u8 ((48+u:Nat):Int))]]))=some (.d (ak (bs [UInt8.ofNat (48+u)]))):=fun _=>rfl;have hd:Lib.decDigits u=[UInt8.ofNat (48+u)]:=by rw[Lib.decDigits,dif_pos h]
  rw[hd];simp -dsimp -implicitDefEqProofs only[aw,ac,V.copy,V.lend,V.lend1,V.cells,V.boxable,over,al,ah,ae,ai,V.plain,Nat.reduceLeDiff,cond_true,cond_false,implies_true,eq_self,ne_eq,reduceIte,reduceCtorEq,Nat.reduceBEq,Nat.reduceLT,Nat.reduceEqDiff,Nat.reduceAdd,Nat.reduceSub,Nat.reduceMul,decide_eq_true (show(-10:Int) < -(u:Int)by omega),hsub,hu8,hcb];first|exact aj hb rfl rfl List.take_length ⟨rfl,rfl⟩|exact aj hb rfl rfl List.take_left ⟨rfl,rfl⟩|(trace_state;fail "fin")
 ·have hsub:IntKind.i64.wrap (48 - -((u%10:Nat):Int))=((48+u%10:Nat):Int):=by rw[bd (by omega) (by omega)];omega
  have hu8:IntKind.u8.wrap ((48+u%10:Nat):Int)=((48+u%10:Nat):Int):=by simp[IntKind.wrap,IntKind.bits,IntKind.signed];omega
  have hcb:∀τ:List (List V),p6 τ (.d (.sl [[.lit (.int .u8 ((48+u%10:Nat):Int))]]))=some (.d (ak (bs [UInt8.ofNat (48+u%10)]))):=fun _=>rfl;have hd:Lib.decDigits u=Lib.decDigits (u/10)++[UInt8.ofNat (48+u%10)]:=by rw[Lib.decDigits,dif_neg h]
  have h6:=iV (u:=u/10) (by omega);have ha:=aR (Lib.decDigits (u/10)) [UInt8.ofNat (48+u%10)] (by simp only[List.length_cons,List.length_nil];omega);rw[hd];simp -dsimp -implicitDefEqProofs only[aw,ac,V.copy,V.lend,V.lend1,V.cells,V.boxable,over,al,ah,ae,ai,V.plain,Nat.reduceLeDiff,cond_true,cond_false,implies_true,eq_self,ne_eq,reduceIte,reduceCtorEq,Nat.reduceBEq,Nat.reduceLT,Nat.reduceEqDiff,Nat.reduceAdd,Nat.reduceSub,Nat.reduceMul,decide_eq_false (show ¬(-10:Int) < -(u:Int)by omega),hquo,hwq,Int.reduceEq];refine ay (ih (u/10) (by omega) (by omega) _) ?_
  simp -dsimp -implicitDefEqProofs only[aw,ac,V.copy,V.lend,V.lend1,V.cells,V.boxable,over,al,ah,ae,ai,V.plain,Nat.reduceLeDiff,cond_true,cond_false,implies_true,eq_self,ne_eq,reduceIte,reduceCtorEq,Nat.reduceBEq,Nat.reduceLT,Nat.reduceEqDiff,Nat.reduceAdd,Nat.reduceSub,Nat.reduceMul,hrem,hsub,hu8,hcb,ha,Int.reduceEq];first|exact aj hb rfl rfl List.take_length ⟨rfl,rfl⟩|exact aj hb rfl rfl List.take_left ⟨rfl,rfl⟩|(trace_state;fail "fin")
theorem lP(n:Int)(h0 : -9223372036854775808≤n)(h1:n≤9223372036854775807)(σ:List (List V)):Fun G 176 [.d (an n)] σ (aB (.d (ak (bs (Lib.itoa n)))) σ):=by
 refine ax Tryz.func176 IL rfl fun hb hw=>?_;unfold FY Lib.itoa;by_cases hn:n<0
 ·have hd:=iV (u:=n.natAbs) (by omega);have ha:aA .add (V.d (ak ⟨#[45]⟩)) (V.d (ak (bs (Lib.decDigits n.natAbs))))=_:=aR [45] (Lib.decDigits n.natAbs) (by simp only[List.length_cons,List.length_nil];omega);have hr:=jo n.natAbs (by omega);have e : -((n.natAbs:Nat):Int)=n:=by omega
  rw[e]at hr;rw[if_pos hn];simp -dsimp -implicitDefEqProofs only[aw,ac,V.copy,V.lend,V.lend1,V.cells,V.boxable,over,al,ah,ae,ai,V.plain,Nat.reduceLeDiff,cond_true,cond_false,implies_true,eq_self,ne_eq,reduceIte,reduceCtorEq,Nat.reduceBEq,Nat.reduceLT,Nat.reduceEqDiff,Nat.reduceAdd,Nat.reduceSub,Nat.reduceMul,decide_eq_true hn];refine ao (hr _) ?_;simp -dsimp -implicitDefEqProofs only[aw,ac,V.copy,V.lend,V.lend1,V.cells,V.boxable,over,al,ah,ae,ai,V.plain,Nat.reduceLeDiff,cond_true,cond_false,implies_true,eq_self,ne_eq,reduceIte,reduceCtorEq,Nat.reduceBEq,Nat.reduceLT,Nat.reduceEqDiff,Nat.reduceAdd,Nat.reduceSub,Nat.reduceMul,ha];first|exact aj hb rfl rfl List.take_length ⟨rfl,rfl⟩|exact aj hb rfl rfl List.take_left ⟨rfl,rfl⟩|(trace_state;fail "fin")
 ·have hw0:IntKind.i64.wrap (0-n) = -(n.toNat:Int):=by rw[bd (by omega) (by omega)];omega
  rw[if_neg hn];simp -dsimp -implicitDefEqProofs only[aw,ac,V.copy,V.lend,V.lend1,V.cells,V.boxable,over,al,ah,ae,ai,V.plain,Nat.reduceLeDiff,cond_true,cond_false,implies_true,eq_self,ne_eq,reduceIte,reduceCtorEq,Nat.reduceBEq,Nat.reduceLT,Nat.reduceEqDiff,Nat.reduceAdd,Nat.reduceSub,Nat.reduceMul,decide_eq_false hn,hw0];refine ao (jo n.toNat (by omega) _) ?_;simp -dsimp -implicitDefEqProofs only[aw,ac,V.copy,V.lend,V.lend1,V.cells,V.boxable,over,al,ah,ae,ai,V.plain,Nat.reduceLeDiff,cond_true,cond_false,implies_true,eq_self,ne_eq,reduceIte,reduceCtorEq,Nat.reduceBEq,Nat.reduceLT,Nat.reduceEqDiff,Nat.reduceAdd,Nat.reduceSub,Nat.reduceMul];first|exact aj hb rfl rfl List.take_length ⟨rfl,rfl⟩|exact aj hb rfl rfl List.take_left ⟨rfl,rfl⟩|(trace_state;fail "fin")
theorem il(n:Int)(h0 : -9223372036854775808≤n)(h1:n≤9223372036854775807)(σ:List (List V)):Fun G 146 [.d (an n)] σ (aB (.d (ak (bs (Lib.itoa n++[59])))) σ):=by
 have h5:=pD h0 h1;have ha:aA .add (V.d (ak (bs (Lib.itoa n)))) (V.d (ak ⟨#[59]⟩))=_:=aR (Lib.itoa n) [59] (by simp only[List.length_cons,List.length_nil];omega);refine ax Tryz.func146 Jt rfl fun hb hw=>?_;unfold Gd;simp -dsimp -implicitDefEqProofs only[aw,ac,V.copy,V.lend,V.lend1,V.cells,V.boxable,over,al,ah,ae,ai,V.plain,Nat.reduceLeDiff,cond_true,cond_false,implies_true,eq_self,ne_eq,reduceIte,reduceCtorEq,Nat.reduceBEq,Nat.reduceLT,Nat.reduceEqDiff,Nat.reduceAdd,Nat.reduceSub,Nat.reduceMul];refine ao (lP n h0 h1 _) ?_;simp -dsimp -implicitDefEqProofs only[aw,ac,V.copy,V.lend,V.lend1,V.cells,V.boxable,over,al,ah,ae,ai,V.plain,Nat.reduceLeDiff,cond_true,cond_false,implies_true,eq_self,ne_eq,reduceIte,reduceCtorEq,Nat.reduceBEq,Nat.reduceLT,Nat.reduceEqDiff,Nat.reduceAdd,Nat.reduceSub,Nat.reduceMul,ha]
 first|exact aj hb rfl rfl List.take_length ⟨rfl,rfl⟩|exact aj hb rfl rfl List.take_left ⟨rfl,rfl⟩|(trace_state;fail "fin")
theorem oO(n:Int)(h0:0≤n)(h1:n≤65535)(σ:List (List V)):Fun G 146 [.d (an n)] σ (aB (.d (ak (bs (Lib.decDigits n.toNat++[59])))) σ):=by
 rw[←pT h0];exact il n (by omega) (by omega) σ
theorem ij(n:Int)(h0:0≤n)(h1:n≤65535)(σ:List (List V)):Fun G 151 [.d (an n)] σ (aB (.d (ak (bs (Lib.decDigits n.toNat)))) σ):=by
 have h5:=gE n.toNat (by omega);refine ax Tryz.func151 JB rfl fun hb hw=>?_;unfold Ht;have hl:(Lib.decDigits n.toNat++[59]).length=(Lib.decDigits n.toNat).length+1:=by simp
 have hw1:IntKind.i64.wrap ((((Lib.decDigits n.toNat++[59]).length:Nat):Int)-1)=(((Lib.decDigits n.toNat).length:Nat):Int):=by rw[hl,bd (by omega) (by omega)];omega
 have hs:=mE (Lib.decDigits n.toNat++[59]) (Lib.decDigits n.toNat).length (by rw[hl];omega);rw[List.take_left]at hs;simp -dsimp -implicitDefEqProofs only[aw,ac,V.copy,V.lend,V.lend1,V.cells,V.boxable,over,al,ah,ae,ai,V.plain,Nat.reduceLeDiff,cond_true,cond_false,implies_true,eq_self,ne_eq,reduceIte,reduceCtorEq,Nat.reduceBEq,Nat.reduceLT,Nat.reduceEqDiff,Nat.reduceAdd,Nat.reduceSub,Nat.reduceMul];refine ao (oO n h0 h1 _) ?_;generalize Lib.decDigits n.toNat=ds at *;generalize ds++[59]=dt at *;simp -dsimp -implicitDefEqProofs only[aw,ac,V.copy,V.lend,V.lend1,V.cells,V.boxable,over,al,ah,ae,ai,V.plain,Nat.reduceLeDiff,cond_true,cond_false,implies_true,eq_self,ne_eq,reduceIte,reduceCtorEq,Nat.reduceBEq,Nat.reduceLT,Nat.reduceEqDiff,Nat.reduceAdd,Nat.reduceSub,Nat.reduceMul,bQ,hw1,hs]
 first|exact aj hb rfl rfl List.take_length ⟨rfl,rfl⟩|exact aj hb rfl rfl List.take_left ⟨rfl,rfl⟩|(trace_state;fail "fin")
def lU(l:List (ByteArray×Int×Nat)):List (List D):=l.map fun b=>[ak b.1,an b.2.1,an b.2.2]
theorem mX(σ:List (List V)):Fun G 165 [] σ (aB (.d (.sl (lU fI))) σ):=by
 refine ax Tryz.func165 H5 rfl fun hb hw=>?_;unfold CV;simp -dsimp -implicitDefEqProofs only[aw,ac,V.copy,V.lend,V.lend1,V.cells,V.boxable,over,al,ah,ae,ai,V.plain,Nat.reduceLeDiff,cond_true,cond_false,implies_true,eq_self,ne_eq,reduceIte,reduceCtorEq,Nat.reduceBEq,Nat.reduceLT,Nat.reduceEqDiff,Nat.reduceAdd,Nat.reduceSub,Nat.reduceMul];exact aj hb rfl rfl List.take_length ⟨rfl,rfl⟩
def kD(l:List (ByteArray×Int×Nat))(o:Int):V:=match l.find? fun b=>decide (b.2.1=o)with
 | some b=>.tup [.agg [.d (ak b.1),.d (an b.2.1),.d (an b.2.2)],aD true]
 | none=>.tup [.agg [.d (ak ⟨#[]⟩),.d (an 0),.d (an 0)],aD false]
theorem pE(o:Int)(σ:List (List V)):Fun G 132 [.d (an o)] σ (aB (kD fI o) σ):=by
 refine ax Tryz.func132 I3 rfl fun hb hw=>?_;unfold FB;have h15:fI.length≤100:=by decide
 simp -dsimp -implicitDefEqProofs only[aw,ac,V.copy,V.lend,V.lend1,V.cells,V.boxable,over,al,ah,ae,ai,V.plain,Nat.reduceLeDiff,cond_true,cond_false,implies_true,eq_self,ne_eq,reduceIte,reduceCtorEq,Nat.reduceBEq,Nat.reduceLT,Nat.reduceEqDiff,Nat.reduceAdd,Nat.reduceSub,Nat.reduceMul];refine ao (mX _) ?_;generalize fI=l at *;simp -dsimp -implicitDefEqProofs only[aw,ac,V.copy,V.lend,V.lend1,V.cells,V.boxable,over,al,ah,ae,ai,V.plain,Nat.reduceLeDiff,cond_true,cond_false,implies_true,eq_self,ne_eq,reduceIte,reduceCtorEq,Nat.reduceBEq,Nat.reduceLT,Nat.reduceEqDiff,Nat.reduceAdd,Nat.reduceSub,Nat.reduceMul,lU]
 refine bD [0,2,6,7,8] (R:=fun(j:Nat) ρ σ'=>ρ=[(0,.d (an o)),(2,.ptr σ.length 0),(6,.d (.sl (lU l))),(7,aU .i64 l.length),(8,aU .i64 j)]∧σ'=σ++[[.d (ak ⟨#[]⟩),.d (an 0),.d (an 0)]]∧kD l o=kD (l.drop j) o) l.length ⟨rfl,rfl,rfl⟩ ?_ _;rintro j ρ' σ' hj ⟨rfl,rfl,hr⟩;by_cases hlt:j<l.length
 ·have hd:kD (l.drop j) o=if l[j].2.1=o then .tup [.agg [.d (ak l[j].1),.d (an l[j].2.1),.d (an l[j].2.2)],aD true]else kD (l.drop (j+1)) o:=by
   rw[List.drop_eq_getElem_cons hlt];unfold kD;rw[List.find?_cons];by_cases h:l[j].2.1=o
   ·simp[h]
   ·simp[h]
  by_cases he:l[j].2.1=o
  ·rw[hd,if_pos he]at hr;rw[hr];simp -dsimp -implicitDefEqProofs only[aw,ac,V.copy,V.lend,V.lend1,V.cells,V.boxable,over,al,ah,ae,ai,V.plain,Nat.reduceLeDiff,cond_true,cond_false,implies_true,eq_self,ne_eq,reduceIte,reduceCtorEq,Nat.reduceBEq,Nat.reduceLT,Nat.reduceEqDiff,Nat.reduceAdd,Nat.reduceSub,Nat.reduceMul,lU,Int.ofNat_lt,hlt,decide_true,List.getElem?_eq_getElem hlt,decide_eq_true he];exact aj (v:=.tup [.agg [.d (ak l[j].1),.d (an l[j].2.1),.d (an l[j].2.2)],aD true]) hb (by simp[xQ,j6,vO,tQ,aw,ac,V.copy,V.lend,V.lend1,V.cells,V.boxable,over,al,ah,ae,ai,V.plain,Nat.reduceLeDiff,cond_true,cond_false,implies_true,eq_self,ne_eq,reduceIte,reduceCtorEq,Nat.reduceBEq,Nat.reduceLT,Nat.reduceEqDiff,Nat.reduceAdd,Nat.reduceSub,Nat.reduceMul]) rfl List.take_left ⟨rfl,rfl⟩
  ·rw[hd,if_neg he]at hr;simp -dsimp -implicitDefEqProofs only[aw,ac,V.copy,V.lend,V.lend1,V.cells,V.boxable,over,al,ah,ae,ai,V.plain,Nat.reduceLeDiff,cond_true,cond_false,implies_true,eq_self,ne_eq,reduceIte,reduceCtorEq,Nat.reduceBEq,Nat.reduceLT,Nat.reduceEqDiff,Nat.reduceAdd,Nat.reduceSub,Nat.reduceMul,lU,Int.ofNat_lt,hlt,decide_true,List.getElem?_eq_getElem hlt,decide_eq_false he,be hlt (show l.length≤9223372036854775807 by omega)];exact Nxt.to (σ++[[.d (ak ⟨#[]⟩),.d (an 0),.d (an 0)]]) [[.d (ak l[j].1),.d (an l[j].2.1),.d (an l[j].2.2)]] (by simp) (by simp) (aS hb rfl) (by simp[aN,V.under]) ⟨rfl,rfl,hr⟩
 ·rw[List.drop_eq_nil_of_le (by omega)]at hr;rw[hr];simp -dsimp -implicitDefEqProofs only[aw,ac,V.copy,V.lend,V.lend1,V.cells,V.boxable,over,al,ah,ae,ai,V.plain,Nat.reduceLeDiff,cond_true,cond_false,implies_true,eq_self,ne_eq,reduceIte,reduceCtorEq,Nat.reduceBEq,Nat.reduceLT,Nat.reduceEqDiff,Nat.reduceAdd,Nat.reduceSub,Nat.reduceMul,Int.ofNat_lt,hlt,decide_false];exact aj (v:=.tup [.agg [.d (ak ⟨#[]⟩),.d (an 0),.d (an 0)],aD false]) hb (by simp[xQ,j6,vO,tQ,aw,ac,V.copy,V.lend,V.lend1,V.cells,V.boxable,over,al,ah,ae,ai,V.plain,Nat.reduceLeDiff,cond_true,cond_false,implies_true,eq_self,ne_eq,reduceIte,reduceCtorEq,Nat.reduceBEq,Nat.reduceLT,Nat.reduceEqDiff,Nat.reduceAdd,Nat.reduceSub,Nat.reduceMul]) rfl List.take_left ⟨rfl,rfl⟩
theorem cO(o:Int)(σ:List (List V)):Fun G 134 [.d (an o)] σ (aB (.d (ak (bs (cJ o)))) σ):=by
 refine ax Tryz.func134 GJ rfl fun hb hw=>?_;unfold DB cJ;by_cases h4:o=4
 ·rw[if_pos h4];simp -dsimp -implicitDefEqProofs only[aw,ac,V.copy,V.lend,V.lend1,V.cells,V.boxable,over,al,ah,ae,ai,V.plain,Nat.reduceLeDiff,cond_true,cond_false,implies_true,eq_self,ne_eq,reduceIte,reduceCtorEq,Nat.reduceBEq,Nat.reduceLT,Nat.reduceEqDiff,Nat.reduceAdd,Nat.reduceSub,Nat.reduceMul,decide_eq_true h4];first|exact aj hb rfl rfl List.take_length ⟨rfl,rfl⟩|exact aj hb rfl rfl List.take_left ⟨rfl,rfl⟩|(trace_state;fail "fin")
 by_cases h5:o=5
 ·rw[if_neg h4,if_pos h5];simp -dsimp -implicitDefEqProofs only[aw,ac,V.copy,V.lend,V.lend1,V.cells,V.boxable,over,al,ah,ae,ai,V.plain,Nat.reduceLeDiff,cond_true,cond_false,implies_true,eq_self,ne_eq,reduceIte,reduceCtorEq,Nat.reduceBEq,Nat.reduceLT,Nat.reduceEqDiff,Nat.reduceAdd,Nat.reduceSub,Nat.reduceMul,decide_eq_false h4,decide_eq_true h5];first|exact aj hb rfl rfl List.take_length ⟨rfl,rfl⟩|exact aj hb rfl rfl List.take_left ⟨rfl,rfl⟩|(trace_state;fail "fin")
 by_cases h6:o=6
 ·rw[if_neg h4,if_neg h5,if_pos h6];simp -dsimp -implicitDefEqProofs only[aw,ac,V.copy,V.lend,V.lend1,V.cells,V.boxable,over,al,ah,ae,ai,V.plain,Nat.reduceLeDiff,cond_true,cond_false,implies_true,eq_self,ne_eq,reduceIte,reduceCtorEq,Nat.reduceBEq,Nat.reduceLT,Nat.reduceEqDiff,Nat.reduceAdd,Nat.reduceSub,Nat.reduceMul,decide_eq_false h4,decide_eq_false h5,decide_eq_true h6];first|exact aj hb rfl rfl List.take_length ⟨rfl,rfl⟩|exact aj hb rfl rfl List.take_left ⟨rfl,rfl⟩|(trace_state;fail "fin")
 rw[if_neg h4,if_neg h5,if_neg h6];simp -dsimp -implicitDefEqProofs only[aw,ac,V.copy,V.lend,V.lend1,V.cells,V.boxable,over,al,ah,ae,ai,V.plain,Nat.reduceLeDiff,cond_true,cond_false,implies_true,eq_self,ne_eq,reduceIte,reduceCtorEq,Nat.reduceBEq,Nat.reduceLT,Nat.reduceEqDiff,Nat.reduceAdd,Nat.reduceSub,Nat.reduceMul,decide_eq_false h4,decide_eq_false h5,decide_eq_false h6];first|exact aj hb rfl rfl List.take_length ⟨rfl,rfl⟩|exact aj hb rfl rfl List.take_left ⟨rfl,rfl⟩|(trace_state;fail "fin")
theorem bR(o:Int)(σ:List (List V)):Fun G 149 [.d (an o)] σ (aB (.d (ak (bs (cJ o)))) σ):=by
 refine ax Tryz.func149 IF rfl fun hb hw=>?_;unfold G0 cJ;by_cases h4:o=4
 ·rw[if_pos h4];simp -dsimp -implicitDefEqProofs only[aw,ac,V.copy,V.lend,V.lend1,V.cells,V.boxable,over,al,ah,ae,ai,V.plain,Nat.reduceLeDiff,cond_true,cond_false,implies_true,eq_self,ne_eq,reduceIte,reduceCtorEq,Nat.reduceBEq,Nat.reduceLT,Nat.reduceEqDiff,Nat.reduceAdd,Nat.reduceSub,Nat.reduceMul,decide_eq_true h4];first|exact aj hb rfl rfl List.take_length ⟨rfl,rfl⟩|exact aj hb rfl rfl List.take_left ⟨rfl,rfl⟩|(trace_state;fail "fin")
 by_cases h5:o=5
 ·rw[if_neg h4,if_pos h5];simp -dsimp -implicitDefEqProofs only[aw,ac,V.copy,V.lend,V.lend1,V.cells,V.boxable,over,al,ah,ae,ai,V.plain,Nat.reduceLeDiff,cond_true,cond_false,implies_true,eq_self,ne_eq,reduceIte,reduceCtorEq,Nat.reduceBEq,Nat.reduceLT,Nat.reduceEqDiff,Nat.reduceAdd,Nat.reduceSub,Nat.reduceMul,decide_eq_false h4,decide_eq_true h5];first|exact aj hb rfl rfl List.take_length ⟨rfl,rfl⟩|exact aj hb rfl rfl List.take_left ⟨rfl,rfl⟩|(trace_state;fail "fin")
 by_cases h6:o=6
 ·rw[if_neg h4,if_neg h5,if_pos h6];simp -dsimp -implicitDefEqProofs only[aw,ac,V.copy,V.lend,V.lend1,V.cells,V.boxable,over,al,ah,ae,ai,V.plain,Nat.reduceLeDiff,cond_true,cond_false,implies_true,eq_self,ne_eq,reduceIte,reduceCtorEq,Nat.reduceBEq,Nat.reduceLT,Nat.reduceEqDiff,Nat.reduceAdd,Nat.reduceSub,Nat.reduceMul,decide_eq_false h4,decide_eq_false h5,decide_eq_true h6];first|exact aj hb rfl rfl List.take_length ⟨rfl,rfl⟩|exact aj hb rfl rfl List.take_left ⟨rfl,rfl⟩|(trace_state;fail "fin")
 rw[if_neg h4,if_neg h5,if_neg h6];simp -dsimp -implicitDefEqProofs only[aw,ac,V.copy,V.lend,V.lend1,V.cells,V.boxable,over,al,ah,ae,ai,V.plain,Nat.reduceLeDiff,cond_true,cond_false,implies_true,eq_self,ne_eq,reduceIte,reduceCtorEq,Nat.reduceBEq,Nat.reduceLT,Nat.reduceEqDiff,Nat.reduceAdd,Nat.reduceSub,Nat.reduceMul,decide_eq_false h4,decide_eq_false h5,decide_eq_false h6];first|exact aj hb rfl rfl List.take_length ⟨rfl,rfl⟩|exact aj hb rfl rfl List.take_left ⟨rfl,rfl⟩|(trace_state;fail "fin")
theorem qI(o:Int):kD fI o=match dS o with
 | some (m,l)=>.tup [.agg [.d (ak m),.d (an o),.d (an l)],aD true]
 | none=>.tup [.agg [.d (ak ⟨#[]⟩),.d (an 0),.d (an 0)],aD false]:=by
 unfold kD dS;cases h:fI.find? fun b=>decide (b.2.1=o)with
 | none=>rfl
 | some b=>
  have:=List.find?_some h;simp only[decide_eq_true_eq]at this;simp only[Option.map_some,this]
theorem ib(o:Int):cJ o=[]↔¬(o=4∨o=5∨o=6):=by
 unfold cJ;repeat' split
 all_goals simp_all
theorem uo(e:Ex)(σ:List (List V)):Fun G 166 [vex e] σ (aB (.d (an (kW e.op))) σ):=by
 refine ax Tryz.func166 Ir (by simp only[aG];rfl) fun hb hw=>?_;unfold F6;simp -dsimp -implicitDefEqProofs only[aw,ac,V.copy,V.lend,V.lend1,V.cells,V.boxable,over,al,ah,ae,ai,V.plain,Nat.reduceLeDiff,cond_true,cond_false,implies_true,eq_self,ne_eq,reduceIte,reduceCtorEq,Nat.reduceBEq,Nat.reduceLT,Nat.reduceEqDiff,Nat.reduceAdd,Nat.reduceSub,Nat.reduceMul,aG];refine ao (pE e.op _) ?_;rw[qI];unfold kW;cases h:dS e.op with
 | some p=>
  obtain⟨m,l⟩:=p;simp -dsimp -implicitDefEqProofs only[aw,ac,V.copy,V.lend,V.lend1,V.cells,V.boxable,over,al,ah,ae,ai,V.plain,Nat.reduceLeDiff,cond_true,cond_false,implies_true,eq_self,ne_eq,reduceIte,reduceCtorEq,Nat.reduceBEq,Nat.reduceLT,Nat.reduceEqDiff,Nat.reduceAdd,Nat.reduceSub,Nat.reduceMul];first|exact aj hb rfl rfl List.take_length ⟨rfl,rfl⟩|exact aj hb rfl rfl List.take_left ⟨rfl,rfl⟩|(trace_state;fail "fin")
 | none=>
  simp only;by_cases h22:e.op=22
  ·rw[if_pos h22];simp -dsimp -implicitDefEqProofs only[aw,ac,V.copy,V.lend,V.lend1,V.cells,V.boxable,over,al,ah,ae,ai,V.plain,Nat.reduceLeDiff,cond_true,cond_false,implies_true,eq_self,ne_eq,reduceIte,reduceCtorEq,Nat.reduceBEq,Nat.reduceLT,Nat.reduceEqDiff,Nat.reduceAdd,Nat.reduceSub,Nat.reduceMul,decide_eq_true h22];first|exact aj hb rfl rfl List.take_length ⟨rfl,rfl⟩|exact aj hb rfl rfl List.take_left ⟨rfl,rfl⟩|(trace_state;fail "fin")
  by_cases h23:e.op=23
  ·rw[if_neg h22,if_pos h23];simp -dsimp -implicitDefEqProofs only[aw,ac,V.copy,V.lend,V.lend1,V.cells,V.boxable,over,al,ah,ae,ai,V.plain,Nat.reduceLeDiff,cond_true,cond_false,implies_true,eq_self,ne_eq,reduceIte,reduceCtorEq,Nat.reduceBEq,Nat.reduceLT,Nat.reduceEqDiff,Nat.reduceAdd,Nat.reduceSub,Nat.reduceMul,decide_eq_false h22,decide_eq_true h23];first|exact aj hb rfl rfl List.take_length ⟨rfl,rfl⟩|exact aj hb rfl rfl List.take_left ⟨rfl,rfl⟩|(trace_state;fail "fin")
  simp -dsimp -implicitDefEqProofs only[aw,ac,V.copy,V.lend,V.lend1,V.cells,V.boxable,over,al,ah,ae,ai,V.plain,Nat.reduceLeDiff,cond_true,cond_false,implies_true,eq_self,ne_eq,reduceIte,reduceCtorEq,Nat.reduceBEq,Nat.reduceLT,Nat.reduceEqDiff,Nat.reduceAdd,Nat.reduceSub,Nat.reduceMul,decide_eq_false h22,decide_eq_false h23];refine ao (cO e.op _) ?_;rw[if_neg h22,if_neg h23];by_cases hp:e.op=4∨e.op=5∨e.op=6
  ·have:¬cJ e.op=[]:=fun hn=>(ib _).1 hn hp;have hd:decide (bs (cJ e.op)=(⟨#[]⟩:ByteArray))=false:=by rw[decide_eq_false_iff_not];intro hh;exact this (jD.1 (hh:_=bs []))
   rw[if_pos hp];simp -dsimp -implicitDefEqProofs only[aw,ac,V.copy,V.lend,V.lend1,V.cells,V.boxable,over,al,ah,ae,ai,V.plain,Nat.reduceLeDiff,cond_true,cond_false,implies_true,eq_self,ne_eq,reduceIte,reduceCtorEq,Nat.reduceBEq,Nat.reduceLT,Nat.reduceEqDiff,Nat.reduceAdd,Nat.reduceSub,Nat.reduceMul,hd];first|exact aj hb rfl rfl List.take_length ⟨rfl,rfl⟩|exact aj hb rfl rfl List.take_left ⟨rfl,rfl⟩|(trace_state;fail "fin")
  ·have:cJ e.op=[]:=(ib _).2 hp;rw[if_neg hp,this];simp -dsimp -implicitDefEqProofs only[aw,ac,V.copy,V.lend,V.lend1,V.cells,V.boxable,over,al,ah,ae,ai,V.plain,Nat.reduceLeDiff,cond_true,cond_false,implies_true,eq_self,ne_eq,reduceIte,reduceCtorEq,Nat.reduceBEq,Nat.reduceLT,Nat.reduceEqDiff,Nat.reduceAdd,Nat.reduceSub,Nat.reduceMul,ck];first|exact aj hb rfl rfl List.take_length ⟨rfl,rfl⟩|exact aj hb rfl rfl List.take_left ⟨rfl,rfl⟩|(trace_state;fail "fin")
end Go.Proofs.YthekkgfmagliiaaGreatDoor
