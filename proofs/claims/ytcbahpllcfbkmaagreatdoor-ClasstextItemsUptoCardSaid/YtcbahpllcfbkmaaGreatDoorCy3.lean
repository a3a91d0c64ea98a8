import Derived.Test.YtcbahpllcfbkmaaGreatDoorCw2
set_option linter.unusedVariables false
set_option linter.unusedSimpArgs false
set_option linter.unusedSectionVars false
namespace Go.Proofs.YtcbahpllcfbkmaaGreatDoor
open Go.RowKit
theorem r12decimal_fun(n:Int)(h0 : -9223372036854775808≤n)(h1:n≤9223372036854775807)(σ:List (List V)):Fun G 25 [.d (dint n)] σ (RetV (.d (dstr (bs (Lib.itoa n)))) σ):=by
 have h5:=itoa_l20 h0 h1;refine fun_code Tryz.func25 k25 rfl fun hb hw=>?_;unfold c25;have hl:(Lib.itoa n++[59]).length=(Lib.itoa n).length+1:=by simp
 have hw1:IntKind.i64.wrap ((((Lib.itoa n++[59]).length:Nat):Int)-1)=(((Lib.itoa n).length:Nat):Int):=by rw[hl,wrap_i64 (by omega) (by omega)];omega
 have hs:=sub_hi (Lib.itoa n++[59]) (Lib.itoa n).length (by rw[hl];omega);rw[List.take_left]at hs;simp -dsimp -implicitDefEqProofs only[aw,slots0,V.copy,V.lend,eq_self,reduceIte,reduceCtorEq,Nat.reduceBEq,Nat.reduceLT];refine fun_ret (r3NumberZ_fun n h0 h1 _) ?_;generalize Lib.itoa n=ds at *;generalize ds++[59]=dt at *;simp -dsimp -implicitDefEqProofs only[aw,V.copy,eq_self,reduceIte,reduceCtorEq,Nat.reduceBEq,Nat.reduceLT,Nat.reduceEqDiff,bs_size,hw1,hs];first|exact fin_ret hb rfl rfl List.take_length ⟨rfl,rfl⟩|exact fin_ret hb rfl rfl List.take_left ⟨rfl,rfl⟩|(trace_state;fail "fin")
theorem sep_snoc(sep:Bs):∀(L:List Bs) (a:Bs),sepT sep (L++[a])=if L=[]then a else sepT sep L++(sep++a)
 | [],a=>rfl
 | [b],a=>rfl
 | b::c::r,a=>by
  have:=sep_snoc sep (c::r) a;rw[if_neg (by simp)]at this ⊢;show b++(sep++sepT sep (c::r++[a]))=b++(sep++sepT sep (c::r))++(sep++a)
  rw[this];simp only[List.append_assoc]
theorem sep_take_le(sep:Bs)(L:List Bs):∀j,(sepT sep (L.take j)).length≤(sepT sep L).length:=by
 intro j
 induction L generalizing j with
 | nil=>simp[sepT]
 | cons a r ih=>
  cases j with
  | zero=>simp[sepT]
  | succ j=>
   cases r with
   | nil=>simp[sepT]
   | cons b r=>
    cases j with
    | zero=>simp[sepT]
    | succ j=>
     have:=ih (j+1);simp only[List.take_succ_cons,sepT,List.length_append]at this ⊢;omega
theorem joined_fun(l:List ByteArray)(sep:Bs)(hl:l.length≤1200000)(hs:sep.length≤100)(hlen:(sepT sep (l.map strT)).length≤140737488355328)(σ:List (List V)):Fun G 26 [.d (dstrs l),.d (dstr (bs sep))] σ (RetV (.d (dstr (bs (sepT sep (l.map strT))))) σ):=by
 refine fun_code Tryz.func26 k26 rfl fun hb hw=>?_;unfold c26;simp -dsimp -implicitDefEqProofs only[aw,slots0,V.copy,eq_self,reduceIte,reduceCtorEq,Nat.reduceBEq,Nat.reduceLT,Nat.reduceEqDiff];refine awp_forK [0,1,5,6] (fun(j:Nat) ρ σ'=>ρ=[(0,.d (.sl (l.map fun s=>[dstr s]))),(1,.d (dstr (bs sep))),(5,.d (dstr (bs (sepT sep ((l.map strT).take j))))),(6,vint .i64 j)]∧σ'=σ) l.length ⟨rfl,rfl⟩ ?_ _;rintro j ρ' σ' hj ⟨rfl,rfl⟩;by_cases hlt:j<l.length
 ·have wj:=wrap_nat hlt (show l.length≤9223372036854775807 by omega);have hlm:j<(l.map strT).length:=by rw[List.length_map];exact hlt
  have hle:=sep_take_le sep (l.map strT) (j+1)
  have hsn:sepT sep ((l.map strT).take (j+1))=if(l.map strT).take j=[]then strT l[j]else sepT sep ((l.map strT).take j)++(sep++strT l[j]):=by
   rw[List.take_succ_eq_append_getElem hlm,sep_snoc];simp only[List.getElem_map]
  by_cases j0:j=0
  ·subst j0;rw[List.take_zero,if_pos rfl]at hsn;rw[hsn]at hle;have d0:decide ((0:Int)<((0:Nat):Int))=false:=rfl
   have a1:binV .add (V.d (dstr (bs (sepT sep [])))) (V.d (dstr l[0]))=some (V.d (dstr (bs (sepT sep ((l.map strT).take (0+1)))))):=by
    have:=sum_bs (a:=[]) (b:=strT l[0]) (c:=strT l[0]) rfl (by simp only[List.length_nil];omega);rw[hsn];unfold strT at this ⊢;rw[bs_self]at this ⊢;exact this
   generalize hQ:sepT sep ((l.map strT).take (0+1))=Q at *;simp -dsimp -implicitDefEqProofs only[aw,V.copy,Nat.reduceLeDiff,eq_self,reduceIte,reduceCtorEq,Nat.reduceBEq,Nat.reduceLT,Nat.reduceEqDiff,Int.ofNat_lt,hlt,decide_true,List.getElem?_eq_getElem hlt,d0,a1,wj];first|exact⟨hlt,Nxt.same (Nat.le_refl _) hb (by simp[slotsBelow,V.under]) ⟨rfl,rfl⟩⟩|exact Nxt.same (Nat.le_refl _) hb (by simp[slotsBelow,V.under]) ⟨rfl,rfl⟩
  ·have hne:(l.map strT).take j≠[]:=fun e=>by
    have:=congrArg List.length e;rw[List.length_take,List.length_nil]at this;omega
   rw[if_neg hne]at hsn;have hle2:=hle;rw[hsn,List.length_append,List.length_append]at hle2;have d0:decide ((0:Int)<(j:Nat))=true:=decide_eq_true (by omega);have a1:=sum_bs (a:=sepT sep ((l.map strT).take j)) (b:=sep) (c:=sepT sep ((l.map strT).take j)++sep) rfl (by omega)
   have a2:binV .add (V.d (dstr (bs (sepT sep ((l.map strT).take j)++sep)))) (V.d (dstr l[j]))=some (V.d (dstr (bs (sepT sep ((l.map strT).take (j+1)))))):=by
    have:=sum_bs (a:=sepT sep ((l.map strT).take j)++sep) (b:=strT l[j]) (c:=sepT sep ((l.map strT).take (j+1))) (by rw[hsn,List.append_assoc]) (by rw[List.length_append];omega);unfold strT at this ⊢;rw[bs_self]at this;exact this
   generalize hP:sepT sep ((l.map strT).take j)=P at *;generalize hQ:sepT sep ((l.map strT).take (j+1))=Q at *;simp -dsimp -implicitDefEqProofs only[aw,V.copy,Nat.reduceLeDiff,eq_self,reduceIte,reduceCtorEq,Nat.reduceBEq,Nat.reduceLT,Nat.reduceEqDiff,Int.ofNat_lt,hlt,decide_true,List.getElem?_eq_getElem hlt,d0,a1,a2,wj];first|exact⟨hlt,Nxt.same (Nat.le_refl _) hb (by simp[slotsBelow,V.under]) ⟨rfl,rfl⟩⟩|exact Nxt.same (Nat.le_refl _) hb (by simp[slotsBelow,V.under]) ⟨rfl,rfl⟩
 ·simp -dsimp -implicitDefEqProofs only[aw,V.copy,eq_self,reduceIte,reduceCtorEq,Nat.reduceBEq,Nat.reduceLT,Nat.reduceEqDiff,Int.ofNat_lt,hlt,decide_false];rw[List.take_of_length_le (show(l.map strT).length≤j by rw[List.length_map];omega)];first|exact fin_ret hb rfl rfl List.take_length ⟨rfl,rfl⟩|exact fin_ret hb rfl rfl List.take_left ⟨rfl,rfl⟩|(trace_state;fail "fin")
set_option maxHeartbeats 4000000 in
theorem rWeights_fun(l:List Wt)(h:∀w,w∈l→WtFit w)(hl:l.length≤1200000)(σ:List (List V)):Fun G 11 [.d (.sl (l.map dwt))] σ (RetV (.d (dstr (bs (wtsT l)))) σ):=by
 have hsl:=sep_len [44,32] 68 (l.map wtT) fun a ha=>by
  obtain⟨w,hw,rfl⟩:=List.mem_map.1 ha;exact wtT_len (h w hw)
 rw[List.length_map]at hsl;refine fun_code Tryz.func11 k11 rfl fun hb hw=>?_;unfold c11 wtsT;simp -dsimp -implicitDefEqProofs only[aw,slots0,V.copy,V.lend,eq_self,reduceIte,reduceCtorEq,Nat.reduceBEq,Nat.reduceLT,Nat.reduceEqDiff];refine awp_forK [0,3,4] (fun(j:Nat) ρ σ'=>ρ=[(0,.d (.sl (l.map dwt))),(3,.own 9 1 (((l.take j).map fun w=>bs (wtT w)).map fun s=>[dstr s])),(4,vint .i64 j)]∧σ'=σ) l.length ⟨rfl,rfl⟩ ?_ _;rintro j ρ' σ' hj ⟨rfl,rfl⟩;by_cases hlt:j<l.length
 ·have wj:=wrap_nat hlt (show l.length≤9223372036854775807 by omega);have hdl:(l.map dwt)[j]? = some [dint l[j].lo,dint l[j].hi,dint l[j].w,.lit (.bool l[j].each)]:=by rw[List.getElem?_map,List.getElem?_eq_getElem hlt];rfl
  have hf:=h _ (List.getElem_mem hlt);have ht:(l.take (j+1)).map (fun w=>bs (wtT w))=(l.take j).map (fun w=>bs (wtT w))++[bs (wtT l[j])]:=by rw[List.take_succ_eq_append_getElem hlt,List.map_append];rfl
  rw[ht];generalize hw':l[j]=w at *;have h1:=itoa_l20 hf.l0 hf.l1;have h2:=itoa_l20 hf.h0 hf.h1;have h3:=itoa_l20 hf.w0 hf.w1;have f1:=fun σ=>r12decimal_fun w.lo hf.l0 hf.l1 σ;have f2:=fun σ=>r12decimal_fun w.hi hf.h0 hf.h1 σ;have f3:=fun σ=>r12decimal_fun w.w hf.w0 hf.w1 σ;have hwt:wtT w=Lib.itoa w.lo++((if w.hi=w.lo then[]else[32,46,46,32]++Lib.itoa w.hi)++((if w.each=true then[32,58,61,32]else[32,58,47,32])++Lib.itoa w.w)):=rfl;generalize Lib.itoa w.lo=A at *;generalize Lib.itoa w.hi=B at *;generalize Lib.itoa w.w=E at *;have hdl0:((l.take j).map (fun w=>bs (wtT w))).length≤1200000:=by rw[List.length_map,List.length_take];omega
  generalize (l.take j).map (fun w=>bs (wtT w))=done at *;have hdone:done.length≤1200000:=hdl0
  have fin:∀(b:Bool) (ρ:Slots),Go.Proofs.YtcbahpllcfbkmaaGreatDoor.Nxt σ'.length (fun ρ s=>ρ=[(0,.d (.sl (l.map dwt))),(3,.own 9 1 ((done++[bs (wtT w)]).map fun s=>[dstr s])),(4,vint .i64 ((j+1:Nat):Int))]∧s=σ') [(0,.d (.sl (l.map dwt))),(3,.own 9 1 ((done++[bs (wtT w)]).map fun s=>[dstr s])),(4,vint .i64 ((j+1:Nat):Int))] (σ'++[[.d (dint w.lo),.d (dint w.hi),.d (dint w.w),.d (dbl b)]]) .mk:=fun b ρ=>
   Nxt.drop (l:=[_]) (Nat.le_refl _) hb (by simp[slotsBelow,V.under]) ⟨rfl,rfl⟩
  have a1:∀c d:UInt8,∀X:Bs,X.length≤50→binV .add (V.d (dstr (bs X))) (V.d (dstr ⟨#[32,58,c,d]⟩))=some (V.d (dstr (bs (X++[32,58,c,d])))):=fun c d X hX=>add_bs X [32,58,c,d] (by simp;omega);by_cases he:w.hi=w.lo
  ·rw[if_pos he]at hwt;cases hE:w.each with
   | true=>
    rw[if_pos hE]at hwt;have u1:=a1 61 32 A (by omega);have v1:=sum_bs (a:=A++[32,58,61,32]) (b:=E) (c:=wtT w) (by rw[hwt];simp) (by simp;omega);simp -dsimp -implicitDefEqProofs only[aw,V.copy,V.lend,V.cells,V.boxable,over,Nat.reduceLeDiff,eq_self,reduceIte,reduceCtorEq,Nat.reduceBEq,Nat.reduceLT,Nat.reduceEqDiff,Nat.reduceAdd,Int.ofNat_lt,hlt,decide_true,hdl];refine fun_ret (f1 _) ?_;simp -dsimp -implicitDefEqProofs only[aw,V.copy,V.lend,Nat.reduceLeDiff,eq_self,reduceIte,reduceCtorEq,Nat.reduceBEq,Nat.reduceLT,Nat.reduceEqDiff,Nat.reduceAdd,he,decide_true,hE,u1];refine fun_ret (f3 _) ?_;simp -dsimp -implicitDefEqProofs only[aw,V.copy,V.cells,rowsOf,plains,V.plain,eq_self,reduceIte,reduceCtorEq,Nat.reduceBEq,Nat.reduceLT,Nat.reduceEqDiff,v1];refine onT_intro (by first|omega|(simp only[List.length_map];omega)) ?_
    simp -dsimp -implicitDefEqProofs only[aw,V.copy,V.lend,eq_self,reduceIte,reduceCtorEq,Nat.reduceBEq,Nat.reduceLT,Nat.reduceEqDiff,wj];have:=fin true;rw[he]at this;first|exact⟨hlt,by simpa using this []⟩|exact(by simpa using this [])
   | false=>
    rw[if_neg (by rw[hE];simp)]at hwt;have u1:=a1 47 32 A (by omega);have v1:=sum_bs (a:=A++[32,58,47,32]) (b:=E) (c:=wtT w) (by rw[hwt];simp) (by simp;omega);simp -dsimp -implicitDefEqProofs only[aw,V.copy,V.lend,V.cells,V.boxable,over,Nat.reduceLeDiff,eq_self,reduceIte,reduceCtorEq,Nat.reduceBEq,Nat.reduceLT,Nat.reduceEqDiff,Nat.reduceAdd,Int.ofNat_lt,hlt,decide_true,hdl];refine fun_ret (f1 _) ?_;simp -dsimp -implicitDefEqProofs only[aw,V.copy,V.lend,Nat.reduceLeDiff,eq_self,reduceIte,reduceCtorEq,Nat.reduceBEq,Nat.reduceLT,Nat.reduceEqDiff,Nat.reduceAdd,he,decide_true,hE,u1];refine fun_ret (f3 _) ?_;simp -dsimp -implicitDefEqProofs only[aw,V.copy,V.cells,rowsOf,plains,V.plain,eq_self,reduceIte,reduceCtorEq,Nat.reduceBEq,Nat.reduceLT,Nat.reduceEqDiff,v1];refine onT_intro (by first|omega|(simp only[List.length_map];omega)) ?_
    simp -dsimp -implicitDefEqProofs only[aw,V.copy,V.lend,eq_self,reduceIte,reduceCtorEq,Nat.reduceBEq,Nat.reduceLT,Nat.reduceEqDiff,wj];have:=fin false;rw[he]at this;first|exact⟨hlt,by simpa using this []⟩|exact(by simpa using this [])
  ·rw[if_neg he]at hwt;have s1:binV .add (V.d (dstr (bs A))) (V.d (dstr ⟨#[32,46,46,32]⟩))=some (V.d (dstr (bs (A++[32,46,46,32])))):=add_bs A [32,46,46,32] (by simp;omega);have s2:=sum_bs (a:=A++[32,46,46,32]) (b:=B) (c:=A++32::46::46::32::B) (by simp) (by simp;omega);have hXl:(A++32::46::46::32::B).length≤50:=by simp;omega
   cases hE:w.each with
   | true=>
    rw[if_pos hE]at hwt;have u1:binV .add (V.d (dstr (bs (A++32::46::46::32::B)))) (V.d (dstr ⟨#[32,58,61,32]⟩))=_:=sum_bs (b:=[32,58,61,32]) (c:=A++32::46::46::32::(B++[32,58,61,32])) (by simp) (by simp;omega);have v1:=sum_bs (a:=A++32::46::46::32::(B++[32,58,61,32])) (b:=E) (c:=wtT w) (by rw[hwt];simp) (by simp;omega);simp -dsimp -implicitDefEqProofs only[aw,V.copy,V.lend,V.cells,V.boxable,over,Nat.reduceLeDiff,eq_self,reduceIte,reduceCtorEq,Nat.reduceBEq,Nat.reduceLT,Nat.reduceEqDiff,Nat.reduceAdd,Int.ofNat_lt,hlt,decide_true,hdl];refine fun_ret (f1 _) ?_;simp -dsimp -implicitDefEqProofs only[aw,V.copy,V.lend,Nat.reduceLeDiff,eq_self,reduceIte,reduceCtorEq,Nat.reduceBEq,Nat.reduceLT,Nat.reduceEqDiff,Nat.reduceAdd,decide_eq_false he,s1];refine fun_ret (f2 _) ?_
    simp -dsimp -implicitDefEqProofs only[aw,V.copy,V.lend,Nat.reduceLeDiff,eq_self,reduceIte,reduceCtorEq,Nat.reduceBEq,Nat.reduceLT,Nat.reduceEqDiff,Nat.reduceAdd,s2,hE,u1];refine fun_ret (f3 _) ?_;simp -dsimp -implicitDefEqProofs only[aw,V.copy,V.cells,rowsOf,plains,V.plain,eq_self,reduceIte,reduceCtorEq,Nat.reduceBEq,Nat.reduceLT,Nat.reduceEqDiff,v1];refine onT_intro (by first|omega|(simp only[List.length_map];omega)) ?_;simp -dsimp -implicitDefEqProofs only[aw,V.copy,V.lend,eq_self,reduceIte,reduceCtorEq,Nat.reduceBEq,Nat.reduceLT,Nat.reduceEqDiff,wj];first|exact⟨hlt,by simpa using fin true []⟩|exact(by simpa using fin true [])
   | false=>
    rw[if_neg (by rw[hE];simp)]at hwt;have u1:binV .add (V.d (dstr (bs (A++32::46::46::32::B)))) (V.d (dstr ⟨#[32,58,47,32]⟩))=_:=sum_bs (b:=[32,58,47,32]) (c:=A++32::46::46::32::(B++[32,58,47,32])) (by simp) (by simp;omega);have v1:=sum_bs (a:=A++32::46::46::32::(B++[32,58,47,32])) (b:=E) (c:=wtT w) (by rw[hwt];simp) (by simp;omega);simp -dsimp -implicitDefEqProofs only[aw,V.copy,V.lend,V.cells,V.boxable,over,Nat.reduceLeDiff,eq_self,reduceIte,reduceCtorEq,Nat.reduceBEq,Nat.reduceLT,Nat.reduceEqDiff,Nat.reduceAdd,Int.ofNat_lt,hlt,decide_true,hdl];refine fun_ret (f1 _) ?_;simp -dsimp -implicitDefEqProofs only[aw,V.copy,V.lend,Nat.reduceLeDiff,eq_self,reduceIte,reduceCtorEq,Nat.reduceBEq,Nat.reduceLT,Nat.reduceEqDiff,Nat.reduceAdd,decide_eq_false he,s1];refine fun_ret (f2 _) ?_
    simp -dsimp -implicitDefEqProofs only[aw,V.copy,V.lend,Nat.reduceLeDiff,eq_self,reduceIte,reduceCtorEq,Nat.reduceBEq,Nat.reduceLT,Nat.reduceEqDiff,Nat.reduceAdd,s2,hE,u1];refine fun_ret (f3 _) ?_;simp -dsimp -implicitDefEqProofs only[aw,V.copy,V.cells,rowsOf,plains,V.plain,eq_self,reduceIte,reduceCtorEq,Nat.reduceBEq,Nat.reduceLT,Nat.reduceEqDiff,v1];refine onT_intro (by first|omega|(simp only[List.length_map];omega)) ?_;simp -dsimp -implicitDefEqProofs only[aw,V.copy,V.lend,eq_self,reduceIte,reduceCtorEq,Nat.reduceBEq,Nat.reduceLT,Nat.reduceEqDiff,wj];first|exact⟨hlt,by simpa using fin false []⟩|exact(by simpa using fin false [])
 ·simp -dsimp -implicitDefEqProofs only[aw,V.copy,V.lend,eq_self,reduceIte,reduceCtorEq,Nat.reduceBEq,Nat.reduceLT,Nat.reduceEqDiff,Int.ofNat_lt,hlt,decide_false];rw[List.take_of_length_le (by omega)]
  have hm:(l.map fun w=>bs (wtT w)).map strT=l.map wtT:=by
   rw[List.map_map];exact List.map_congr_left fun w _=>bs_list _
  have hj:=joined_fun (l.map fun w=>bs (wtT w)) [44,32] (by rw[List.length_map];omega) (by decide) (by rw[hm];exact Nat.le_trans hsl (by simp only[List.length_cons,List.length_nil];omega));rw[hm]at hj;simp only[dstrs]at hj;refine fun_ret (hj _) ?_;simp -dsimp -implicitDefEqProofs only[aw,V.copy,eq_self,reduceIte,reduceCtorEq,Nat.reduceBEq,Nat.reduceLT,Nat.reduceEqDiff];first|exact fin_ret hb rfl rfl List.take_length ⟨rfl,rfl⟩|exact fin_ret hb rfl rfl List.take_left ⟨rfl,rfl⟩|(trace_state;fail "fin")
end Go.Proofs.YtcbahpllcfbkmaaGreatDoor
