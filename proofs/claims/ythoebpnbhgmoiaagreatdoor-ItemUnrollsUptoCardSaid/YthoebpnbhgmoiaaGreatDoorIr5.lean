import Derived.Test.YthoebpnbhgmoiaaGreatDoorIr11
set_option linter.unusedVariables false
set_option linter.unusedSimpArgs false
set_option linter.unusedSectionVars false
namespace Go.Proofs.YthoebpnbhgmoiaaGreatDoor
open Go.RowKit
theorem spl_parts{s:ByteArray}(h:elemB s=true):4≤s.size∧cutA s 91=s.extract 0 (s.size-3)∧cutB s 91=s.extract (s.size-2) s.size:=by
 simp only[elemB,Bool.and_eq_true,cutOk,decide_eq_true_eq]at h;obtain⟨⟨h1,h2⟩,h3⟩:=h;obtain⟨o,ho⟩:=Int.eq_ofNat_of_zero_le h1;have hA:cutA s 91=s.extract 0 o:=by unfold cutA;rw[ho,if_neg (by omega)];rfl
 have hB:cutB s 91=s.extract (o+1) s.size:=by unfold cutB;rw[ho,if_neg (by omega)];rfl
 rw[hA]at h2;rw[hB]at h3;by_cases hz:(s.extract (o+1) s.size).size=2
 ·have hz':=hz;rw[ByteArray.size_extract]at hz';have hw:=wordB_pos (nameB_word h2);rw[ByteArray.size_extract]at hw;have e:s.size=o+3:=by omega
  have i2:s.size-2=o+1:=by omega
  have i3:s.size-3=o:=by omega
  rw[i2,i3];exact⟨by omega,hA,hB⟩
 ·rw[closeB_ne hz]at h3;cases h3
abbrev vspl(o:Option (ByteArray×Int)):V:=match o with
 | some (a,k)=>.tup [.d (dstr a),.d (dint k),vbool true]
 | none=>.tup [.d (dstr ⟨#[]⟩),.d (dint 0),vbool false]
theorem spl_no{s:ByteArray}(h:elemB s=false):splE s=none:=by unfold splE;rw[dif_neg (by simp[h])]
theorem splE_some{s:ByteArray}(h:elemB s=true)(hn:4≤s.size):splE s=some (s.extract 0 (s.size-3),((s[s.size-2]'(by omega)).toNat:Int)-48):=by
 obtain⟨_,hA,hB⟩:=spl_parts h;have hl:0<(cutB s 91).size:=by rw[hB,ByteArray.size_extract];omega
 unfold splE;rw[dif_pos ⟨h,hl⟩,hA]
 have:((cutB s 91)[0]'hl)=s[s.size-2]'(by omega):=by
  simp only[hB];rw[ext_get];rfl
 rw[this]
theorem sub_lo0(s:ByteArray)(n:Nat)(h:n≤s.size):subV true 0 (V.d (dstr s)) none (some (V.d (dint n)))=some (V.d (dstr (s.extract 0 n))):=by
 simp[subV,boundV,vstr,h]
set_option maxHeartbeats 1000000 in
theorem rsplit_fun(s:ByteArray)(hs:s.size≤1000000)(σ:List (List V)):Fun G 125 [.d (dstr s)] σ (RetV (vspl (splE s)) σ):=by
 refine fun_code Tryz.func125 k125 rfl fun hb hw=>?_;delta c125 oM oV kI kS kT kF;have he:=elemB_splitB s;have hlen:=Lib.size_eq s;by_cases h4:s.size<4
 ·rw[splitB_lt h4]at he;have h4':((s.size:Nat):Int)<4:=by omega
  rw[spl_no he];simp -dsimp -implicitDefEqProofs only[aw,slots0,V.copy,eq_self,reduceIte,reduceCtorEq,Nat.reduceBEq,Nat.reduceLT,Nat.reduceEqDiff,decide_eq_true h4'];exact fin_ret (v:=.tup [.d (dstr ⟨#[]⟩),.d (dint 0),vbool false]) hb rfl rfl List.take_length ⟨rfl,rfl⟩
 have h4':¬((s.size:Nat):Int)<4:=by omega
 rw[splitB_ge h4]at he;have w1:IntKind.i64.wrap (((s.size:Nat):Int)-1)=((s.size-1:Nat):Int):=by rw[wrap_i64 (by omega) (by omega)];omega
 have w2:IntKind.i64.wrap (((s.size:Nat):Int)-2)=((s.size-2:Nat):Int):=by rw[wrap_i64 (by omega) (by omega)];omega
 have w3:IntKind.i64.wrap (((s.size:Nat):Int)-3)=((s.size-3:Nat):Int):=by rw[wrap_i64 (by omega) (by omega)];omega
 have x1:s.data.toList[s.size-1]? = some (s[s.size-1]'(by omega)):=get_list s _ (by omega);have x2:s.data.toList[s.size-2]? = some (s[s.size-2]'(by omega)):=get_list s _ (by omega);have x3:s.data.toList[s.size-3]? = some (s[s.size-3]'(by omega)):=get_list s _ (by omega);have hres:elemB s=true→splE s=some (s.extract 0 (s.size-3),((s[s.size-2]'(by omega)).toNat:Int)-48):=fun h=>splE_some h (by omega);have hsub:=sub_lo0 s (s.size-3) (by omega);have hnm:=fun σ=>fun_isname (s.extract 0 (s.size-3)) σ;generalize s[s.size-1]'(by omega)=c1 at he x1;generalize s[s.size-2]'(by omega)=c2 at he x2 hres;generalize s[s.size-3]'(by omega)=c3 at he x3;have hc2:=c2.toNat_lt;by_cases q1:c1.toNat=93
 case neg=>
  have q1':¬((c1.toNat:Nat):Int)=93:=by omega
  rw[spl_no (by rw[he,decide_eq_false q1];simp)];simp -dsimp -implicitDefEqProofs only[aw,slots0,V.copy,cond_false,eq_self,reduceIte,reduceCtorEq,Nat.reduceBEq,Nat.reduceLT,Nat.reduceEqDiff,decide_eq_false h4',w1,x1,decide_eq_false q1'];exact fin_ret (v:=.tup [.d (dstr ⟨#[]⟩),.d (dint 0),vbool false]) hb rfl rfl List.take_length ⟨rfl,rfl⟩
 have q1':((c1.toNat:Nat):Int)=93:=by omega
 by_cases q3:c3.toNat=91
 case neg=>
  have q3':¬((c3.toNat:Nat):Int)=91:=by omega
  rw[spl_no (by rw[he,decide_eq_false q3];simp)];simp -dsimp -implicitDefEqProofs only[aw,slots0,V.copy,cond_false,eq_self,reduceIte,reduceCtorEq,Nat.reduceBEq,Nat.reduceLT,Nat.reduceEqDiff,decide_eq_false h4',w1,x1,decide_eq_true q1',w3,x3,decide_eq_false q3'];exact fin_ret (v:=.tup [.d (dstr ⟨#[]⟩),.d (dint 0),vbool false]) hb rfl rfl List.take_length ⟨rfl,rfl⟩
 have q3':((c3.toNat:Nat):Int)=91:=by omega
 have w4:IntKind.i64.wrap ((c2.toNat:Nat):Int)=((c2.toNat:Nat):Int):=wrap_i64 (by omega) (by omega);have w5:IntKind.i64.wrap (((c2.toNat:Nat):Int)-48)=((c2.toNat:Nat):Int)-48:=wrap_i64 (by omega) (by omega);rw[decide_eq_true q1,decide_eq_true q3]at he;by_cases l1:((c2.toNat:Nat):Int)-48<0
 ·rw[spl_no (by rw[he,decide_eq_false (show ¬48≤c2.toNat by omega)];simp)];simp -dsimp -implicitDefEqProofs only[aw,slots0,V.copy,cond_false,eq_self,reduceIte,reduceCtorEq,Nat.reduceBEq,Nat.reduceLT,Nat.reduceEqDiff,decide_eq_false h4',w1,x1,decide_eq_true q1',w3,x3,decide_eq_true q3',w2,x2,w4,w5,hsub,decide_eq_true l1];exact fin_ret (v:=.tup [.d (dstr ⟨#[]⟩),.d (dint 0),vbool false]) hb rfl rfl List.take_length ⟨rfl,rfl⟩
 by_cases l2:8≤((c2.toNat:Nat):Int)-48
 ·rw[spl_no (by rw[he,decide_eq_false (show ¬c2.toNat<56 by omega)];simp)];simp -dsimp -implicitDefEqProofs only[aw,slots0,V.copy,cond_false,eq_self,reduceIte,reduceCtorEq,Nat.reduceBEq,Nat.reduceLT,Nat.reduceEqDiff,decide_eq_false h4',w1,x1,decide_eq_true q1',w3,x3,decide_eq_true q3',w2,x2,w4,w5,hsub,decide_eq_false l1,decide_eq_true l2];exact fin_ret (v:=.tup [.d (dstr ⟨#[]⟩),.d (dint 0),vbool false]) hb rfl rfl List.take_length ⟨rfl,rfl⟩
 rw[decide_eq_true (show 48≤c2.toNat by omega),decide_eq_true (show c2.toNat<56 by omega)]at he;simp -dsimp -implicitDefEqProofs only[aw,slots0,V.copy,V.lend,cond_false,eq_self,reduceIte,reduceCtorEq,Nat.reduceBEq,Nat.reduceLT,Nat.reduceEqDiff,decide_eq_false h4',w1,x1,decide_eq_true q1',w3,x3,decide_eq_true q3',w2,x2,w4,w5,hsub,decide_eq_false l1,decide_eq_false l2];refine fun_ret (hnm _) ?_;generalize s.extract 0 (s.size-3)=a at he hres;cases hn:nameB a with
 | false=>
  rw[spl_no (by rw[he,hn];simp)];simp -dsimp -implicitDefEqProofs only[aw,V.copy,cond_false,eq_self,reduceIte,Nat.reduceBEq,Nat.reduceLT,Nat.reduceEqDiff];exact fin_ret (v:=.tup [.d (dstr ⟨#[]⟩),.d (dint 0),vbool false]) hb rfl rfl List.take_length ⟨rfl,rfl⟩
 | true=>
  rw[hres (by rw[he,hn];simp)];simp -dsimp -implicitDefEqProofs only[aw,V.copy,cond_false,eq_self,reduceIte,Nat.reduceBEq,Nat.reduceLT,Nat.reduceEqDiff];exact fin_ret (v:=.tup [.d (dstr a),.d (dint (((c2.toNat:Nat):Int)-48)),vbool true]) hb rfl rfl List.take_length ⟨rfl,rfl⟩
theorem rvariable_fun(c:Cl)(s:ByteArray)(hs:s.size≤1000000)(hl:c.fields.length≤1000000)(σ:List (List V)):Fun G 89 [vcl c,.d (dstr s)] σ (RetV (.d (dint (varE splE (fldS c) s))) σ):=by
 refine fun_code Tryz.func89 k89 rfl fun hb hw=>?_;delta c89 oM oV kI kS kT kF;simp -dsimp -implicitDefEqProofs only[aw,slots0,V.copy,V.lend,V.lend1,V.cells,V.boxable,Nat.reduceLeDiff,eq_self,reduceIte,reduceCtorEq,Nat.reduceBEq,Nat.reduceLT,Nat.reduceEqDiff,Nat.reduceAdd];refine fun_ret (field_fun c s hl _) ?_;cases hf:fsz (fldS c) s with
 | some n=>
  have e:varE splE (fldS c) s=if 0<n then 9 else 0:=by unfold varE;rw[hf]
  rw[e];by_cases h0:0<n
  ·rw[if_pos h0];simp -dsimp -implicitDefEqProofs only[aw,V.copy,V.lend,eq_self,reduceIte,Nat.reduceBEq,Nat.reduceLT,Nat.reduceEqDiff,Option.getD_some,Option.isSome_some,decide_eq_true h0];first|exact fin_ret hb rfl rfl List.take_length ⟨rfl,rfl⟩|exact fin_ret hb rfl rfl List.take_left ⟨rfl,rfl⟩
  ·rw[if_neg h0];simp -dsimp -implicitDefEqProofs only[aw,V.copy,V.lend,eq_self,reduceIte,Nat.reduceBEq,Nat.reduceLT,Nat.reduceEqDiff,Option.getD_some,Option.isSome_some,decide_eq_false h0];first|exact fin_ret hb rfl rfl List.take_length ⟨rfl,rfl⟩|exact fin_ret hb rfl rfl List.take_left ⟨rfl,rfl⟩
 | none=>
  simp -dsimp -implicitDefEqProofs only[aw,V.copy,V.lend,eq_self,reduceIte,Nat.reduceBEq,Nat.reduceLT,Nat.reduceEqDiff,Option.getD_none,Option.isSome_none];refine fun_ret (rsplit_fun s hs _) ?_;cases hp:splE s with
  | none=>
   have e:varE splE (fldS c) s=7:=by unfold varE;rw[hf,hp]
   rw[e];simp -dsimp -implicitDefEqProofs only[aw,V.copy,V.lend,V.lend1,Nat.reduceLeDiff,eq_self,reduceIte,Nat.reduceBEq,Nat.reduceLT,Nat.reduceEqDiff,Nat.reduceAdd];refine fun_ret (field_fun c ⟨#[]⟩ hl _) ?_;simp -dsimp -implicitDefEqProofs only[aw,V.copy,eq_self,reduceIte,Nat.reduceBEq,Nat.reduceLT,Nat.reduceEqDiff];first|exact fin_ret hb rfl rfl List.take_length ⟨rfl,rfl⟩|exact fin_ret hb rfl rfl List.take_left ⟨rfl,rfl⟩
  | some ak=>
   obtain⟨a,k⟩:=ak;simp -dsimp -implicitDefEqProofs only[aw,V.copy,V.lend,V.lend1,Nat.reduceLeDiff,eq_self,reduceIte,Nat.reduceBEq,Nat.reduceLT,Nat.reduceEqDiff,Nat.reduceAdd];refine fun_ret (field_fun c a hl _) ?_;cases hfa:fsz (fldS c) a with
   | none=>
    have e:varE splE (fldS c) s=7:=by unfold varE;rw[hf,hp];simp only[hfa]
    rw[e];simp -dsimp -implicitDefEqProofs only[aw,V.copy,cond_false,eq_self,reduceIte,Nat.reduceBEq,Nat.reduceLT,Nat.reduceEqDiff,Option.getD_none,Option.isSome_none];first|exact fin_ret hb rfl rfl List.take_length ⟨rfl,rfl⟩|exact fin_ret hb rfl rfl List.take_left ⟨rfl,rfl⟩
   | some n=>
    have e:varE splE (fldS c) s=if n<1 then 9 else if n≤k then 7 else 0:=by unfold varE;rw[hf,hp];simp only[hfa]
    rw[e];by_cases h0:n<1
    ·rw[if_pos h0];simp -dsimp -implicitDefEqProofs only[aw,V.copy,cond_false,eq_self,reduceIte,Nat.reduceBEq,Nat.reduceLT,Nat.reduceEqDiff,Option.getD_some,Option.isSome_some,decide_eq_true h0];first|exact fin_ret hb rfl rfl List.take_length ⟨rfl,rfl⟩|exact fin_ret hb rfl rfl List.take_left ⟨rfl,rfl⟩
    ·rw[if_neg h0];by_cases hk:n≤k
     ·rw[if_pos hk];simp -dsimp -implicitDefEqProofs only[aw,V.copy,cond_false,eq_self,reduceIte,Nat.reduceBEq,Nat.reduceLT,Nat.reduceEqDiff,Option.getD_some,Option.isSome_some,decide_eq_false h0,decide_eq_true hk];first|exact fin_ret hb rfl rfl List.take_length ⟨rfl,rfl⟩|exact fin_ret hb rfl rfl List.take_left ⟨rfl,rfl⟩
     ·rw[if_neg hk];simp -dsimp -implicitDefEqProofs only[aw,V.copy,cond_false,eq_self,reduceIte,Nat.reduceBEq,Nat.reduceLT,Nat.reduceEqDiff,Option.getD_some,Option.isSome_some,decide_eq_false h0,decide_eq_false hk];first|exact fin_ret hb rfl rfl List.take_length ⟨rfl,rfl⟩|exact fin_ret hb rfl rfl List.take_left ⟨rfl,rfl⟩
theorem eith_eq(fs:List (ByteArray×Int))(s:ByteArray):eithB splE fs s = !(!decide (varE splE fs s=0) && !decide (arrE fs s=0)):=by
 unfold eithB;cases hf:fsz fs s with
 | none=>
  have ha:arrE fs s=7:=by unfold arrE;rw[hf]
  rw[ha];simp
 | some n=>
  have hv:varE splE fs s=if 0<n then 9 else 0:=by unfold varE;rw[hf]
  have ha:arrE fs s=if n<1 then 9 else 0:=by unfold arrE;rw[hf]
  rw[hv,ha];by_cases h:0<n
  ·rw[if_pos h,if_neg (by omega)];rfl
  ·rw[if_neg h,if_pos (by omega)];rfl
theorem r11named_fun(c:Cl)(l:List ByteArray)(hl:l.length≤1000000)(hs:∀s,s∈l→s.size≤1000000)(hc:c.fields.length≤1000000)(σ:List (List V)):Fun G 111 [vcl c,.d (dstrs l)] σ (RetV (vbool (l.all (eithB splE (fldS c)))) σ):=by
 refine fun_code Tryz.func111 k111 rfl fun hb hw=>?_;delta c111 oM oV kI kS kT kF;simp -dsimp -implicitDefEqProofs only[aw,slots0,V.copy,V.cells,V.boxable,eq_self,reduceIte,reduceCtorEq,Nat.reduceBEq,Nat.reduceLT,Nat.reduceEqDiff,dstrs];refine awp_for (R:=fun(j:Nat) ρ σ'=>ρ=[(1,.d (.sl (l.map fun s=>[dstr s]))),(2,.ptr σ.length 0),(5,vint .i64 j)]∧σ'=σ++[clsC c]∧l.all (eithB splE (fldS c))=(l.drop j).all (eithB splE (fldS c))) l.length ⟨rfl,rfl,rfl⟩ ?_ _;rintro j ρ' σ' hj ⟨rfl,rfl,hr⟩;by_cases hlt:j<l.length
 ·rw[List.drop_eq_getElem_cons hlt,List.all_cons]at hr;have hxx:l[j]? = some l[j]:=List.getElem?_eq_getElem hlt;have hsz:=hs _ (List.getElem_mem hlt);generalize l[j]=s at hr hxx hsz;rw[eith_eq]at hr;have wj:=wrap_nat hlt (show l.length≤9223372036854775807 by omega);simp -dsimp -implicitDefEqProofs only[aw,V.copy,V.lend,V.lend1,Nat.reduceLeDiff,eq_self,reduceIte,Nat.reduceBEq,Nat.reduceLT,Nat.reduceEqDiff,Nat.reduceAdd,Int.ofNat_lt,hlt,decide_true,hxx];refine calm_ret (rvariable_fun c s hsz hc _) ?_;by_cases h1:varE splE (fldS c) s=0
  ·rw[decide_eq_true h1,Bool.not_true,Bool.false_and,Bool.not_false,Bool.true_and]at hr;simp -dsimp -implicitDefEqProofs only[aw,V.copy,eq_self,reduceIte,Nat.reduceBEq,Nat.reduceLT,Nat.reduceEqDiff,h1,decide_true,wj];exact⟨hlt,Nxt.same (by simp) (boxesBelow_app hb rfl) (by simp[slotsBelow,V.under]) ⟨rfl,rfl,hr⟩⟩
  ·rw[decide_eq_false h1,Bool.not_false,Bool.true_and]at hr;simp -dsimp -implicitDefEqProofs only[aw,V.copy,V.lend,V.lend1,Nat.reduceLeDiff,eq_self,reduceIte,Nat.reduceLT,Nat.reduceEqDiff,Nat.reduceAdd,decide_eq_false h1,hxx];refine calm_ret (rarray_fun c s hc _) ?_;by_cases h2:arrE (fldS c) s=0
   ·rw[decide_eq_true h2,Bool.not_true,Bool.not_false,Bool.true_and]at hr;simp -dsimp -implicitDefEqProofs only[aw,V.copy,cond_true,eq_self,reduceIte,Nat.reduceBEq,Nat.reduceLT,Nat.reduceEqDiff,h2,decide_true,wj];exact⟨hlt,Nxt.same (by simp) (boxesBelow_app hb rfl) (by simp[slotsBelow,V.under]) ⟨rfl,rfl,hr⟩⟩
   ·rw[decide_eq_false h2,Bool.not_false,Bool.not_true,Bool.false_and]at hr;rw[hr];simp -dsimp -implicitDefEqProofs only[aw,V.copy,cond_true,eq_self,reduceIte,Nat.reduceBEq,Nat.reduceLT,Nat.reduceEqDiff,decide_eq_false h2];first|exact fin_ret hb rfl rfl List.take_length ⟨rfl,rfl⟩|exact fin_ret hb rfl rfl List.take_left ⟨rfl,rfl⟩
 ·rw[List.drop_eq_nil_of_le (by omega),List.all_nil]at hr;rw[hr];simp -dsimp -implicitDefEqProofs only[aw,V.copy,eq_self,reduceIte,Nat.reduceBEq,Nat.reduceLT,Nat.reduceEqDiff,Int.ofNat_lt,hlt,decide_false];first|exact fin_ret hb rfl rfl List.take_length ⟨rfl,rfl⟩|exact fin_ret hb rfl rfl List.take_left ⟨rfl,rfl⟩
end Go.Proofs.YthoebpnbhgmoiaaGreatDoor
