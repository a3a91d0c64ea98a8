import Derived.Test.YtcbahpllcfbkmaaGreatDoorPt
import Derived.Test.YtcbahpllcfbkmaaGreatDoorSh
import Derived.Test.YtcbahpllcfbkmaaGreatDoorBr8
set_option linter.unusedVariables false
set_option linter.unusedSimpArgs false
set_option linter.unusedSectionVars false
namespace Go.Proofs.YtcbahpllcfbkmaaGreatDoor
open Go.RowKit
theorem Nxt.to{n0:Nat}{R:Slots→List (List V)→Prop}{ρ:Slots}{S:List (List V)}(τ l:List (List V))(h:S=τ++l)(hn:n0≤τ.length)(hb:boxesBelow τ.length τ=true)(hs:slotsBelow τ.length ρ=true)(hR:R ρ τ):Nxt n0 R ρ S .mk:=by
 subst h;exact Nxt.drop hn hb hs hR
theorem add_bs(a b:Bs)(h:a.length+b.length≤9223372036854775807):binV .add (V.d (dstr (bs a))) (V.d (dstr (bs b)))=some (V.d (dstr (bs (a++b)))):=by
 rw[v_sadd,bs_size,bs_size,if_pos h,bs_append]
theorem itoa_pos{n:Int}(h:0≤n):Lib.itoa n=Lib.decDigits n.toNat:=by
 unfold Lib.itoa;rw[if_neg (by omega)]
theorem dec_lens(k:Nat):∀u:Nat,u<10^(k+1)→(Lib.decDigits u).length≤k+1:=by
 induction k with
 | zero=>intro u h;rw[Lib.decDigits,dif_pos (by simpa using h)];simp
 | succ k ih=>
  intro u h;rw[Lib.decDigits];split
  ·simp
  ·have:=ih (u/10) (by rw[Nat.pow_succ]at h;omega);simp only[List.length_append,List.length_cons,List.length_nil];omega
theorem dec_l19{u:Nat}(h:u≤9223372036854775808):(Lib.decDigits u).length≤19:=dec_lens 18 u (by omega)
theorem itoa_l20{n:Int}(h0 : -9223372036854775808≤n)(h1:n≤9223372036854775807):(Lib.itoa n).length≤20:=by
 unfold Lib.itoa;split
 ·have:=dec_l19 (u:=n.natAbs) (by omega);simp only[List.length_cons];omega
 ·have:=dec_l19 (u:=n.toNat) (by omega);omega
theorem numFormatZ_fun(n:Int)(h0 : -9223372036854775808≤n)(h1:n≤9223372036854775807)(σ:List (List V)):Fun G 42 [.d (dint n)] σ (RetV (.d (dstr (bs (Lib.itoa n)))) σ):=by
 have h5:=itoa_l20 h0 h1;refine fun_code Tryz.func42 k42 rfl fun hb hw=>?_;unfold c42;simp -dsimp -implicitDefEqProofs only[aw,slots0,V.copy,V.lend,eq_self,reduceIte,reduceCtorEq,Nat.reduceBEq,Nat.reduceLT];refine fun_ret (fun_itoa n h0 h1 (by unfold maxLen;omega) _) ?_;simp -dsimp -implicitDefEqProofs only[aw,V.copy,eq_self,reduceIte,reduceCtorEq,Nat.reduceBEq,Nat.reduceLT,Nat.reduceEqDiff];first|exact fin_ret hb rfl rfl List.take_length ⟨rfl,rfl⟩|exact fin_ret hb rfl rfl List.take_left ⟨rfl,rfl⟩|(trace_state;fail "fin")
theorem numFormat_fun(n:Int)(h0:0≤n)(h1:n≤65535)(σ:List (List V)):Fun G 42 [.d (dint n)] σ (RetV (.d (dstr (bs (Lib.decDigits n.toNat)))) σ):=by
 rw[←itoa_pos h0];exact numFormatZ_fun n (by omega) (by omega) σ
theorem r3digits_fun(u:Nat):u≤9223372036854775808→∀σ:List (List V),Fun G 103 [.d (dint (-(u:Int)))] σ (RetV (.d (dstr (bs (Lib.decDigits u)))) σ):=by
 induction u using Nat.strongRecOn with
 | ind u ih=>
 intro hu σ;have h5:=dec_l19 hu;have hrem:(-(u:Int)).tmod 10 = -((u%10:Nat):Int):=by rw[Int.neg_tmod];rfl
 have hquo:(-(u:Int)).tdiv 10 = -((u/10:Nat):Int):=by rw[Int.neg_tdiv];rfl
 have hwq:IntKind.i64.wrap (-((u/10:Nat):Int)) = -((u/10:Nat):Int):=wrap_i64 (by omega) (by omega);refine fun_code Tryz.func103 k103 rfl fun hb hw=>?_;unfold c103;by_cases h:u<10
 ·have hsub:IntKind.i64.wrap (48 - -(u:Int))=((48+u:Nat):Int):=by rw[wrap_i64 (by omega) (by omega)];omega
  have hu8:IntKind.u8.wrap ((48+u:Nat):Int)=((48+u:Nat):Int):=by simp[IntKind.wrap,IntKind.bits,IntKind.signed];omega
  have hcb:∀τ:List (List V),cbsV τ (.d (.sl [[.lit (.int .u8 ((48+u:Nat):Int))]]))=some (.d (dstr (bs [UInt8.ofNat (48+u)]))):=fun _=>rfl;have hd:Lib.decDigits u=[UInt8.ofNat (48+u)]:=by rw[Lib.decDigits,dif_pos h]
  rw[hd];simp -dsimp -implicitDefEqProofs only[aw,slots0,V.copy,V.cells,rowsOf,plains,V.plain,eq_self,reduceIte,reduceCtorEq,Nat.reduceBEq,Nat.reduceLT,Nat.reduceEqDiff,decide_eq_true (show(-10:Int) < -(u:Int)by omega),hsub,hu8,hcb];first|exact fin_ret hb rfl rfl List.take_length ⟨rfl,rfl⟩|exact fin_ret hb rfl rfl List.take_left ⟨rfl,rfl⟩|(trace_state;fail "fin")
 ·have hsub:IntKind.i64.wrap (48 - -((u%10:Nat):Int))=((48+u%10:Nat):Int):=by rw[wrap_i64 (by omega) (by omega)];omega
  have hu8:IntKind.u8.wrap ((48+u%10:Nat):Int)=((48+u%10:Nat):Int):=by simp[IntKind.wrap,IntKind.bits,IntKind.signed];omega
  have hcb:∀τ:List (List V),cbsV τ (.d (.sl [[.lit (.int .u8 ((48+u%10:Nat):Int))]]))=some (.d (dstr (bs [UInt8.ofNat (48+u%10)]))):=fun _=>rfl;have hd:Lib.decDigits u=Lib.decDigits (u/10)++[UInt8.ofNat (48+u%10)]:=by rw[Lib.decDigits,dif_neg h]
  have h6:=dec_l19 (u:=u/10) (by omega);have ha:=add_bs (Lib.decDigits (u/10)) [UInt8.ofNat (48+u%10)] (by simp only[List.length_cons,List.length_nil];omega);rw[hd];simp -dsimp -implicitDefEqProofs only[aw,slots0,V.copy,V.lend,eq_self,reduceIte,reduceCtorEq,Nat.reduceBEq,Nat.reduceLT,Nat.reduceEqDiff,decide_eq_false (show ¬(-10:Int) < -(u:Int)by omega),hquo,hwq,Int.reduceEq];refine calm_ret (ih (u/10) (by omega) (by omega) _) ?_;simp -dsimp -implicitDefEqProofs only[aw,V.copy,V.cells,rowsOf,plains,V.plain,eq_self,reduceIte,reduceCtorEq,Nat.reduceBEq,Nat.reduceLT,Nat.reduceEqDiff,hrem,hsub,hu8,hcb,ha,Int.reduceEq];first|exact fin_ret hb rfl rfl List.take_length ⟨rfl,rfl⟩|exact fin_ret hb rfl rfl List.take_left ⟨rfl,rfl⟩|(trace_state;fail "fin")
theorem r3decimalZ_fun(n:Int)(h0 : -9223372036854775808≤n)(h1:n≤9223372036854775807)(σ:List (List V)):Fun G 64 [.d (dint n)] σ (RetV (.d (dstr (bs (Lib.itoa n)))) σ):=by
 refine fun_code Tryz.func64 k64 rfl fun hb hw=>?_;unfold c64 Lib.itoa;by_cases hn:n<0
 ·have hd:=dec_l19 (u:=n.natAbs) (by omega);have ha:binV .add (V.d (dstr ⟨#[45]⟩)) (V.d (dstr (bs (Lib.decDigits n.natAbs))))=_:=add_bs [45] (Lib.decDigits n.natAbs) (by simp only[List.length_cons,List.length_nil];omega);have hr:=r3digits_fun n.natAbs (by omega);have e : -((n.natAbs:Nat):Int)=n:=by omega
  rw[e]at hr;rw[if_pos hn];simp -dsimp -implicitDefEqProofs only[aw,slots0,V.copy,V.lend,eq_self,reduceIte,reduceCtorEq,Nat.reduceBEq,Nat.reduceLT,Nat.reduceEqDiff,decide_eq_true hn];refine fun_ret (hr _) ?_;simp -dsimp -implicitDefEqProofs only[aw,V.copy,eq_self,reduceIte,reduceCtorEq,Nat.reduceBEq,Nat.reduceLT,Nat.reduceEqDiff,ha];first|exact fin_ret hb rfl rfl List.take_length ⟨rfl,rfl⟩|exact fin_ret hb rfl rfl List.take_left ⟨rfl,rfl⟩|(trace_state;fail "fin")
 ·have hw0:IntKind.i64.wrap (0-n) = -(n.toNat:Int):=by rw[wrap_i64 (by omega) (by omega)];omega
  rw[if_neg hn];simp -dsimp -implicitDefEqProofs only[aw,slots0,V.copy,V.lend,eq_self,reduceIte,reduceCtorEq,Nat.reduceBEq,Nat.reduceLT,Nat.reduceEqDiff,decide_eq_false hn,hw0];refine fun_ret (r3digits_fun n.toNat (by omega) _) ?_;simp -dsimp -implicitDefEqProofs only[aw,V.copy,eq_self,reduceIte,reduceCtorEq,Nat.reduceBEq,Nat.reduceLT,Nat.reduceEqDiff];first|exact fin_ret hb rfl rfl List.take_length ⟨rfl,rfl⟩|exact fin_ret hb rfl rfl List.take_left ⟨rfl,rfl⟩|(trace_state;fail "fin")
theorem r3NumberZ_fun(n:Int)(h0 : -9223372036854775808≤n)(h1:n≤9223372036854775807)(σ:List (List V)):Fun G 45 [.d (dint n)] σ (RetV (.d (dstr (bs (Lib.itoa n++[59])))) σ):=by
 have h5:=itoa_l20 h0 h1;have ha:binV .add (V.d (dstr (bs (Lib.itoa n)))) (V.d (dstr ⟨#[59]⟩))=_:=add_bs (Lib.itoa n) [59] (by simp only[List.length_cons,List.length_nil];omega);refine fun_code Tryz.func45 k45 rfl fun hb hw=>?_;unfold c45;simp -dsimp -implicitDefEqProofs only[aw,slots0,V.copy,V.lend,eq_self,reduceIte,reduceCtorEq,Nat.reduceBEq,Nat.reduceLT];refine fun_ret (r3decimalZ_fun n h0 h1 _) ?_;simp -dsimp -implicitDefEqProofs only[aw,V.copy,eq_self,reduceIte,reduceCtorEq,Nat.reduceBEq,Nat.reduceLT,Nat.reduceEqDiff,ha];first|exact fin_ret hb rfl rfl List.take_length ⟨rfl,rfl⟩|exact fin_ret hb rfl rfl List.take_left ⟨rfl,rfl⟩|(trace_state;fail "fin")
theorem r3Number_fun(n:Int)(h0:0≤n)(h1:n≤65535)(σ:List (List V)):Fun G 45 [.d (dint n)] σ (RetV (.d (dstr (bs (Lib.decDigits n.toNat++[59])))) σ):=by
 rw[←itoa_pos h0];exact r3NumberZ_fun n (by omega) (by omega) σ
theorem r9decimal_fun(n:Int)(h0:0≤n)(h1:n≤65535)(σ:List (List V)):Fun G 138 [.d (dint n)] σ (RetV (.d (dstr (bs (Lib.decDigits n.toNat)))) σ):=by
 have h5:=dec_five n.toNat (by omega);refine fun_code Tryz.func138 k138 rfl fun hb hw=>?_;unfold c138;have hl:(Lib.decDigits n.toNat++[59]).length=(Lib.decDigits n.toNat).length+1:=by simp
 have hw1:IntKind.i64.wrap ((((Lib.decDigits n.toNat++[59]).length:Nat):Int)-1)=(((Lib.decDigits n.toNat).length:Nat):Int):=by rw[hl,wrap_i64 (by omega) (by omega)];omega
 have hs:=sub_hi (Lib.decDigits n.toNat++[59]) (Lib.decDigits n.toNat).length (by rw[hl];omega);rw[List.take_left]at hs;simp -dsimp -implicitDefEqProofs only[aw,slots0,V.copy,V.lend,eq_self,reduceIte,reduceCtorEq,Nat.reduceBEq,Nat.reduceLT];refine fun_ret (r3Number_fun n h0 h1 _) ?_;generalize Lib.decDigits n.toNat=ds at *;generalize ds++[59]=dt at *;simp -dsimp -implicitDefEqProofs only[aw,V.copy,eq_self,reduceIte,reduceCtorEq,Nat.reduceBEq,Nat.reduceLT,Nat.reduceEqDiff,bs_size,hw1,hs];first|exact fin_ret hb rfl rfl List.take_length ⟨rfl,rfl⟩|exact fin_ret hb rfl rfl List.take_left ⟨rfl,rfl⟩|(trace_state;fail "fin")
def opRows(l:List (ByteArray×Int×Nat)):List (List D):=l.map fun b=>[dstr b.1,dint b.2.1,dint b.2.2]
theorem operators_fun(σ:List (List V)):Fun G 169 [] σ (RetV (.d (.sl (opRows binTab))) σ):=by
 refine fun_code Tryz.func169 k169 rfl fun hb hw=>?_;unfold c169;simp -dsimp -implicitDefEqProofs only[aw,slots0,V.copy,V.cells,over,bldV,rowsOf,plains,V.plain,Nat.reduceLeDiff,eq_self,reduceIte,reduceCtorEq,Nat.reduceBEq,Nat.reduceLT,Nat.reduceEqDiff,Nat.reduceAdd];exact fin_ret hb rfl rfl List.take_length ⟨rfl,rfl⟩
def byOpV(l:List (ByteArray×Int×Nat))(o:Int):V:=match l.find? fun b=>decide (b.2.1=o)with
 | some b=>.tup [.agg [.d (dstr b.1),.d (dint b.2.1),.d (dint b.2.2)],vbool true]
 | none=>.tup [.agg [.d (dstr ⟨#[]⟩),.d (dint 0),.d (dint 0)],vbool false]
theorem byOp_fun(o:Int)(σ:List (List V)):Fun G 156 [.d (dint o)] σ (RetV (byOpV binTab o) σ):=by
 refine fun_code Tryz.func156 k156 rfl fun hb hw=>?_;unfold c156;have h15:binTab.length≤100:=by decide
 simp -dsimp -implicitDefEqProofs only[aw,slots0,V.copy,V.lend,eq_self,reduceIte,reduceCtorEq,Nat.reduceBEq,Nat.reduceLT,Nat.reduceEqDiff];refine fun_ret (operators_fun _) ?_;generalize binTab=l at *;simp -dsimp -implicitDefEqProofs only[aw,V.copy,bldV,eq_self,reduceIte,reduceCtorEq,Nat.reduceBEq,Nat.reduceLT,Nat.reduceEqDiff,opRows];refine awp_forK [0,2,6,7,8] (R:=fun(j:Nat) ρ σ'=>ρ=[(0,.d (dint o)),(2,.ptr σ.length 0),(6,.d (.sl (opRows l))),(7,vint .i64 l.length),(8,vint .i64 j)]∧σ'=σ++[[.d (dstr ⟨#[]⟩),.d (dint 0),.d (dint 0)]]∧byOpV l o=byOpV (l.drop j) o) l.length ⟨rfl,rfl,rfl⟩ ?_ _;rintro j ρ' σ' hj ⟨rfl,rfl,hr⟩;by_cases hlt:j<l.length
 ·have hd:byOpV (l.drop j) o=if l[j].2.1=o then .tup [.agg [.d (dstr l[j].1),.d (dint l[j].2.1),.d (dint l[j].2.2)],vbool true]else byOpV (l.drop (j+1)) o:=by
   rw[List.drop_eq_getElem_cons hlt];unfold byOpV;rw[List.find?_cons];by_cases h:l[j].2.1=o
   ·simp[h]
   ·simp[h]
  by_cases he:l[j].2.1=o
  ·rw[hd,if_pos he]at hr;rw[hr];simp -dsimp -implicitDefEqProofs only[aw,V.copy,V.cells,V.boxable,over,bldV,Nat.reduceLeDiff,eq_self,reduceIte,reduceCtorEq,Nat.reduceBEq,Nat.reduceLT,Nat.reduceEqDiff,Nat.reduceAdd,opRows,Int.ofNat_lt,hlt,decide_true,List.getElem?_eq_getElem hlt,decide_eq_true he];exact fin_ret (v:=.tup [.agg [.d (dstr l[j].1),.d (dint l[j].2.1),.d (dint l[j].2.2)],vbool true]) hb (by simp[rs156,resV,resL,res1,aw,V.copy,V.lend,V.lend1,eq_self,reduceIte,Nat.reduceEqDiff,Nat.reduceAdd]) rfl List.take_left ⟨rfl,rfl⟩
  ·rw[hd,if_neg he]at hr;simp -dsimp -implicitDefEqProofs only[aw,V.copy,V.cells,V.boxable,over,bldV,Nat.reduceLeDiff,eq_self,reduceIte,reduceCtorEq,Nat.reduceBEq,Nat.reduceLT,Nat.reduceEqDiff,Nat.reduceAdd,opRows,Int.ofNat_lt,hlt,decide_true,List.getElem?_eq_getElem hlt,decide_eq_false he,wrap_nat hlt (show l.length≤9223372036854775807 by omega)];exact Nxt.to (σ++[[.d (dstr ⟨#[]⟩),.d (dint 0),.d (dint 0)]]) [[.d (dstr l[j].1),.d (dint l[j].2.1),.d (dint l[j].2.2)]] (by simp) (by simp) (boxesBelow_app hb rfl) (by simp[slotsBelow,V.under]) ⟨rfl,rfl,hr⟩
 ·rw[List.drop_eq_nil_of_le (by omega)]at hr;rw[hr];simp -dsimp -implicitDefEqProofs only[aw,V.copy,V.cells,V.boxable,over,bldV,Nat.reduceLeDiff,eq_self,reduceIte,reduceCtorEq,Nat.reduceBEq,Nat.reduceLT,Nat.reduceEqDiff,Nat.reduceAdd,Int.ofNat_lt,hlt,decide_false];exact fin_ret (v:=.tup [.agg [.d (dstr ⟨#[]⟩),.d (dint 0),.d (dint 0)],vbool false]) hb (by simp[rs156,resV,resL,res1,aw,V.copy,V.lend,V.lend1,eq_self,reduceIte,Nat.reduceEqDiff,Nat.reduceAdd]) rfl List.take_left ⟨rfl,rfl⟩
theorem prefix_fun(o:Int)(σ:List (List V)):Fun G 158 [.d (dint o)] σ (RetV (.d (dstr (bs (preS o)))) σ):=by
 refine fun_code Tryz.func158 k158 rfl fun hb hw=>?_;unfold c158 preS;by_cases h4:o=4
 ·rw[if_pos h4];simp -dsimp -implicitDefEqProofs only[aw,slots0,V.copy,eq_self,reduceIte,reduceCtorEq,Nat.reduceBEq,Nat.reduceLT,Nat.reduceEqDiff,decide_eq_true h4];first|exact fin_ret hb rfl rfl List.take_length ⟨rfl,rfl⟩|exact fin_ret hb rfl rfl List.take_left ⟨rfl,rfl⟩|(trace_state;fail "fin")
 by_cases h5:o=5
 ·rw[if_neg h4,if_pos h5];simp -dsimp -implicitDefEqProofs only[aw,slots0,V.copy,eq_self,reduceIte,reduceCtorEq,Nat.reduceBEq,Nat.reduceLT,Nat.reduceEqDiff,decide_eq_false h4,decide_eq_true h5];first|exact fin_ret hb rfl rfl List.take_length ⟨rfl,rfl⟩|exact fin_ret hb rfl rfl List.take_left ⟨rfl,rfl⟩|(trace_state;fail "fin")
 by_cases h6:o=6
 ·rw[if_neg h4,if_neg h5,if_pos h6];simp -dsimp -implicitDefEqProofs only[aw,slots0,V.copy,eq_self,reduceIte,reduceCtorEq,Nat.reduceBEq,Nat.reduceLT,Nat.reduceEqDiff,decide_eq_false h4,decide_eq_false h5,decide_eq_true h6];first|exact fin_ret hb rfl rfl List.take_length ⟨rfl,rfl⟩|exact fin_ret hb rfl rfl List.take_left ⟨rfl,rfl⟩|(trace_state;fail "fin")
 rw[if_neg h4,if_neg h5,if_neg h6];simp -dsimp -implicitDefEqProofs only[aw,slots0,V.copy,eq_self,reduceIte,reduceCtorEq,Nat.reduceBEq,Nat.reduceLT,Nat.reduceEqDiff,decide_eq_false h4,decide_eq_false h5,decide_eq_false h6];first|exact fin_ret hb rfl rfl List.take_length ⟨rfl,rfl⟩|exact fin_ret hb rfl rfl List.take_left ⟨rfl,rfl⟩|(trace_state;fail "fin")
theorem r9prefix_fun(o:Int)(σ:List (List V)):Fun G 136 [.d (dint o)] σ (RetV (.d (dstr (bs (preS o)))) σ):=by
 refine fun_code Tryz.func136 k136 rfl fun hb hw=>?_;unfold c136 preS;by_cases h4:o=4
 ·rw[if_pos h4];simp -dsimp -implicitDefEqProofs only[aw,slots0,V.copy,eq_self,reduceIte,reduceCtorEq,Nat.reduceBEq,Nat.reduceLT,Nat.reduceEqDiff,decide_eq_true h4];first|exact fin_ret hb rfl rfl List.take_length ⟨rfl,rfl⟩|exact fin_ret hb rfl rfl List.take_left ⟨rfl,rfl⟩|(trace_state;fail "fin")
 by_cases h5:o=5
 ·rw[if_neg h4,if_pos h5];simp -dsimp -implicitDefEqProofs only[aw,slots0,V.copy,eq_self,reduceIte,reduceCtorEq,Nat.reduceBEq,Nat.reduceLT,Nat.reduceEqDiff,decide_eq_false h4,decide_eq_true h5];first|exact fin_ret hb rfl rfl List.take_length ⟨rfl,rfl⟩|exact fin_ret hb rfl rfl List.take_left ⟨rfl,rfl⟩|(trace_state;fail "fin")
 by_cases h6:o=6
 ·rw[if_neg h4,if_neg h5,if_pos h6];simp -dsimp -implicitDefEqProofs only[aw,slots0,V.copy,eq_self,reduceIte,reduceCtorEq,Nat.reduceBEq,Nat.reduceLT,Nat.reduceEqDiff,decide_eq_false h4,decide_eq_false h5,decide_eq_true h6];first|exact fin_ret hb rfl rfl List.take_length ⟨rfl,rfl⟩|exact fin_ret hb rfl rfl List.take_left ⟨rfl,rfl⟩|(trace_state;fail "fin")
 rw[if_neg h4,if_neg h5,if_neg h6];simp -dsimp -implicitDefEqProofs only[aw,slots0,V.copy,eq_self,reduceIte,reduceCtorEq,Nat.reduceBEq,Nat.reduceLT,Nat.reduceEqDiff,decide_eq_false h4,decide_eq_false h5,decide_eq_false h6];first|exact fin_ret hb rfl rfl List.take_length ⟨rfl,rfl⟩|exact fin_ret hb rfl rfl List.take_left ⟨rfl,rfl⟩|(trace_state;fail "fin")
theorem byOpV_eq(o:Int):byOpV binTab o=match binL o with
 | some (m,l)=>.tup [.agg [.d (dstr m),.d (dint o),.d (dint l)],vbool true]
 | none=>.tup [.agg [.d (dstr ⟨#[]⟩),.d (dint 0),.d (dint 0)],vbool false]:=by
 unfold byOpV binL;cases h:binTab.find? fun b=>decide (b.2.1=o)with
 | none=>rfl
 | some b=>
  have:=List.find?_some h;simp only[decide_eq_true_eq]at this;simp only[Option.map_some,this]
theorem pre_nil(o:Int):preS o=[]↔¬(o=4∨o=5∨o=6):=by
 unfold preS;repeat' split
 all_goals simp_all
theorem level_fun(e:Ex)(σ:List (List V)):Fun G 170 [vex e] σ (RetV (.d (dint (levO e.op))) σ):=by
 refine fun_code Tryz.func170 k170 (by simp only[vex_eq];rfl) fun hb hw=>?_;unfold c170;simp -dsimp -implicitDefEqProofs only[aw,slots0,V.copy,V.lend,V.cells,V.boxable,Nat.reduceLeDiff,eq_self,reduceIte,reduceCtorEq,Nat.reduceBEq,Nat.reduceLT,Nat.reduceEqDiff,Nat.reduceAdd,vex_eq];refine fun_ret (byOp_fun e.op _) ?_;rw[byOpV_eq];unfold levO;cases h:binL e.op with
 | some p=>
  obtain⟨m,l⟩:=p;simp -dsimp -implicitDefEqProofs only[aw,V.copy,V.cells,V.boxable,over,Nat.reduceLeDiff,eq_self,reduceIte,Nat.reduceBEq,Nat.reduceLT,Nat.reduceEqDiff,Nat.reduceAdd];first|exact fin_ret hb rfl rfl List.take_length ⟨rfl,rfl⟩|exact fin_ret hb rfl rfl List.take_left ⟨rfl,rfl⟩|(trace_state;fail "fin")
 | none=>
  simp only;by_cases h22:e.op=22
  ·rw[if_pos h22];simp -dsimp -implicitDefEqProofs only[aw,V.copy,V.cells,V.boxable,over,Nat.reduceLeDiff,eq_self,reduceIte,Nat.reduceBEq,Nat.reduceLT,Nat.reduceEqDiff,Nat.reduceAdd,decide_eq_true h22];first|exact fin_ret hb rfl rfl List.take_length ⟨rfl,rfl⟩|exact fin_ret hb rfl rfl List.take_left ⟨rfl,rfl⟩|(trace_state;fail "fin")
  by_cases h23:e.op=23
  ·rw[if_neg h22,if_pos h23];simp -dsimp -implicitDefEqProofs only[aw,V.copy,V.cells,V.boxable,over,Nat.reduceLeDiff,eq_self,reduceIte,Nat.reduceBEq,Nat.reduceLT,Nat.reduceEqDiff,Nat.reduceAdd,decide_eq_false h22,decide_eq_true h23];first|exact fin_ret hb rfl rfl List.take_length ⟨rfl,rfl⟩|exact fin_ret hb rfl rfl List.take_left ⟨rfl,rfl⟩|(trace_state;fail "fin")
  simp -dsimp -implicitDefEqProofs only[aw,V.copy,V.lend,V.cells,V.boxable,over,Nat.reduceLeDiff,eq_self,reduceIte,Nat.reduceBEq,Nat.reduceLT,Nat.reduceEqDiff,Nat.reduceAdd,decide_eq_false h22,decide_eq_false h23];refine fun_ret (prefix_fun e.op _) ?_;rw[if_neg h22,if_neg h23];by_cases hp:e.op=4∨e.op=5∨e.op=6
  ·have:¬preS e.op=[]:=fun hn=>(pre_nil _).1 hn hp;have hd:decide (bs (preS e.op)=(⟨#[]⟩:ByteArray))=false:=by rw[decide_eq_false_iff_not];intro hh;exact this (bs_inj.1 (hh:_=bs []))
   rw[if_pos hp];simp -dsimp -implicitDefEqProofs only[aw,V.copy,eq_self,reduceIte,Nat.reduceBEq,Nat.reduceLT,Nat.reduceEqDiff,hd];first|exact fin_ret hb rfl rfl List.take_length ⟨rfl,rfl⟩|exact fin_ret hb rfl rfl List.take_left ⟨rfl,rfl⟩|(trace_state;fail "fin")
  ·have:preS e.op=[]:=(pre_nil _).2 hp;rw[if_neg hp,this];simp -dsimp -implicitDefEqProofs only[aw,V.copy,eq_self,reduceIte,Nat.reduceBEq,Nat.reduceLT,Nat.reduceEqDiff,nil_yes];first|exact fin_ret hb rfl rfl List.take_length ⟨rfl,rfl⟩|exact fin_ret hb rfl rfl List.take_left ⟨rfl,rfl⟩|(trace_state;fail "fin")
end Go.Proofs.YtcbahpllcfbkmaaGreatDoor
