import Derived.Lib.AtoiErrMem
import Derived.Test.YtcbahpllcfbkmaaGreatDoorEt1
import Derived.Test.YtcbahpllcfbkmaaGreatDoorBr8
set_option linter.unusedVariables false
set_option linter.unusedSimpArgs false
set_option linter.unusedSectionVars false
namespace Go.Proofs.YtcbahpllcfbkmaaGreatDoor
open Go.RowKit
theorem fun_joins(sep:Bs)(l:List ByteArray)(hn:l.length≤140737488355328)(hlen:(Lib.join (l.map (·.data.toList)) sep).length≤140737488355328)(σ:List (List V)):
 Fun G 24 [.d (dstrs l),.d (dstr (bs sep))] σ (RetV (.d (dstr (bs (Lib.join (l.map (·.data.toList)) sep)))) σ):=
 fun_of2 Tryz.func24 (by kernel_rfl) (by kernel_rfl) (by show(bs _).size≤maxLen;rw[bs_size];unfold maxLen;omega) fun M bm pr w v v' hG hM h1 h2=>by
  cases rep_lit h2;obtain⟨p,cap,rfl,g1,g2,g3⟩:=strsval_of hM h1;by_cases h0:l=[]
  ·subst h0;exact same_ext (Tryz.strings_Join_none p cap (bs sep) w)
  ·have hp:0<l.length:=List.length_pos_iff.2 h0;obtain⟨b,off,rfl,g4⟩:=g3 0 (l[0]'hp) (List.getElem?_eq_getElem hp)
   have h:=Tryz.strings_Join b off cap l (bs sep) w (fun j x hj=>by
    obtain⟨b',off',e,g5⟩:=g3 j x hj;cases e;exact g5) (Lib.lt_of_cell g4) hn g1 (by rw[bs_list];exact hlen)
   rw[bs_list]at h;exact h
theorem suffix_fun(d:Bs)(hl:d.length≤1200000)(σ:List (List V)):Fun G 173 [.d (dstr (bs (d++[93]))),.d (dstr ⟨#[93]⟩)] σ (RetV (vbool true) σ):=by
 refine fun_code Tryz.func173 k173 rfl fun hb hw=>?_;unfold c173;have hn:(d++[93]).length=d.length+1:=by simp
 have h1:((⟨#[93]⟩:ByteArray).size:Int)=1:=rfl;have hle:(1:Int)≤(((d++[93]).length:Nat):Int):=by rw[hn];omega
 have hw1:IntKind.i64.wrap ((((d++[93]).length:Nat):Int)-1)=((d.length:Nat):Int):=by rw[hn,wrap_i64 (by omega) (by omega)];omega
 have hs:=sub_lo (d++[93]) d.length (by rw[hn];omega);rw[List.drop_left]at hs;have he:decide (bs [93]=(⟨#[93]⟩:ByteArray))=true:=by rw[decide_eq_true_eq];rfl
 generalize d++[93]=dt at *;simp -dsimp -implicitDefEqProofs only[aw,slots0,V.copy,V.lend,V.lend1,V.cells,V.boxable,over,bldV,boundV,rowsOf,plains,V.plain,Nat.reduceLeDiff,cond_true,cond_false,implies_true,eq_self,ne_eq,reduceIte,reduceCtorEq,Nat.reduceBEq,Nat.reduceLT,Nat.reduceEqDiff,Nat.reduceAdd,Nat.reduceSub,Nat.reduceMul,bs_size,h1,decide_eq_true hle,hw1,hs,he];first|exact fin_ret hb rfl rfl List.take_length ⟨rfl,rfl⟩|exact fin_ret hb rfl rfl List.take_left ⟨rfl,rfl⟩|(trace_state;fail "fin")
theorem trim0_fun(d:Bs)(hl:d.length≤1200000)(σ:List (List V)):Fun G 161 [.d (dstr (bs (d++[93]))),.d (dstr ⟨#[93]⟩)] σ (RetV (.d (dstr (bs d))) σ):=by
 refine fun_code Tryz.func161 k161 rfl fun hb hw=>?_;unfold c161;have hn:(d++[93]).length=d.length+1:=by simp
 have h1:((⟨#[93]⟩:ByteArray).size:Int)=1:=rfl;have hw1:IntKind.i64.wrap ((((d++[93]).length:Nat):Int)-1)=((d.length:Nat):Int):=by rw[hn,wrap_i64 (by omega) (by omega)];omega
 have hs:=sub_hi (d++[93]) d.length (by rw[hn];omega);rw[List.take_left]at hs;have hf:=suffix_fun d hl;generalize d++[93]=dt at *;simp -dsimp -implicitDefEqProofs only[aw,slots0,V.copy,V.lend,V.lend1,V.cells,V.boxable,over,bldV,boundV,rowsOf,plains,V.plain,Nat.reduceLeDiff,cond_true,cond_false,implies_true,eq_self,ne_eq,reduceIte,reduceCtorEq,Nat.reduceBEq,Nat.reduceLT,Nat.reduceEqDiff,Nat.reduceAdd,Nat.reduceSub,Nat.reduceMul];refine fun_ret (hf _) ?_;simp -dsimp -implicitDefEqProofs only[aw,slots0,V.copy,V.lend,V.lend1,V.cells,V.boxable,over,bldV,boundV,rowsOf,plains,V.plain,Nat.reduceLeDiff,cond_true,cond_false,implies_true,eq_self,ne_eq,reduceIte,reduceCtorEq,Nat.reduceBEq,Nat.reduceLT,Nat.reduceEqDiff,Nat.reduceAdd,Nat.reduceSub,Nat.reduceMul,bs_size,h1,hw1,hs]
 first|exact fin_ret hb rfl rfl List.take_length ⟨rfl,rfl⟩|exact fin_ret hb rfl rfl List.take_left ⟨rfl,rfl⟩|(trace_state;fail "fin")
theorem trim_fun(d:Bs)(hl:d.length≤1200000)(σ:List (List V)):Fun G 145 [.d (dstr (bs (d++[93]))),.d (dstr ⟨#[93]⟩)] σ (RetV (.d (dstr (bs d))) σ):=by
 refine fun_code Tryz.func145 k145 rfl fun hb hw=>?_;unfold c145;simp -dsimp -implicitDefEqProofs only[aw,slots0,V.copy,V.lend,V.lend1,V.cells,V.boxable,over,bldV,boundV,rowsOf,plains,V.plain,Nat.reduceLeDiff,cond_true,cond_false,implies_true,eq_self,ne_eq,reduceIte,reduceCtorEq,Nat.reduceBEq,Nat.reduceLT,Nat.reduceEqDiff,Nat.reduceAdd,Nat.reduceSub,Nat.reduceMul];refine fun_ret (trim0_fun d hl _) ?_;simp -dsimp -implicitDefEqProofs only[aw,slots0,V.copy,V.lend,V.lend1,V.cells,V.boxable,over,bldV,boundV,rowsOf,plains,V.plain,Nat.reduceLeDiff,cond_true,cond_false,implies_true,eq_self,ne_eq,reduceIte,reduceCtorEq,Nat.reduceBEq,Nat.reduceLT,Nat.reduceEqDiff,Nat.reduceAdd,Nat.reduceSub,Nat.reduceMul];first|exact fin_ret hb rfl rfl List.take_length ⟨rfl,rfl⟩|exact fin_ret hb rfl rfl List.take_left ⟨rfl,rfl⟩|(trace_state;fail "fin")
theorem index_at:∀(x q:Bs),(∀c,c∈x→c≠91)→Lib.indexByte (x++91::q) 91=(x.length:Nat)
 | [],q,_=>rfl
 | a::x,q,h=>by
  have ih:=index_at x q fun c hc=>h c (by simp[hc]);have ha:(a==(91:UInt8))=false:=beq_eq_false_iff_ne.2 (h a (by simp));simp only[List.cons_append,Lib.indexByte,ha,ih,Bool.false_eq_true,if_false];rw[if_neg (by simp;try omega)];simp
theorem index_none:∀(x:Bs),(∀c,c∈x→c≠91)→Lib.indexByte x 91 = -1
 | [],_=>rfl
 | a::x,h=>by
  have ih:=index_none x fun c hc=>h c (by simp[hc]);have ha:(a==(91:UInt8))=false:=beq_eq_false_iff_ne.2 (h a (by simp));simp only[Lib.indexByte,ha,ih,Bool.false_eq_true,if_false];rfl
theorem indexByte_fun(l:Bs)(hl:l.length≤1200000)(σ:List (List V)):Fun G 171 [.d (dstr (bs l)),.d (.lit (.int .u8 91))] σ (RetV (.d (dint (Lib.indexByte l 91))) σ):=
 fun_lit2 Tryz.func171 (by kernel_rfl) (by kernel_rfl) (by
  have h1:=Lib.indexByte_ge l 91
  have h2:Lib.indexByte l 91≤l.length:=by
   clear h1 hl
   induction l with
   | nil=>simp[Lib.indexByte]
   | cons a r ih=>simp only[Lib.indexByte,List.length_cons];repeat' split
                  all_goals omega
  simp only[Fits,IntKind.min,IntKind.max,IntKind.signed,IntKind.bits];simp;omega) fun pr w _=>by
  have:=same_ext (Tryz.strings_IndexByte (bs l) 91 w);rw[bs_list]at this;exact this
theorem word_no91{l:Bs}(h:wordL l=true):∀c,c∈l→c≠91:=by
 intro c hc;cases l with
 | nil=>cases hc
 | cons a r=>
  simp only[wordL,Bool.and_eq_true]at h;have:=List.all_eq_true.1 h.2 c hc;rintro rfl;revert this;decide
theorem name_word{s:ByteArray}(h:nameB s=true):wordL s.data.toList=true:=by
 simp only[nameB,Bool.and_eq_true]at h;exact h.1.1
theorem etvar_fun(s:ByteArray)(h:isVarB s=true)(σ:List (List V)):Fun G 159 [.d (dstr s)] σ (RetV (.d (dstr (bs (textE (.mk 2 0 s []))))) σ):=by
 rw[text_var];unfold isVarB at h;rw[Bool.or_eq_true]at h;refine fun_code Tryz.func159 k159 rfl fun hb hw=>?_;unfold c159;by_cases hel:elemB s=true
 ·rw[if_pos hel];obtain⟨g1,g2,g3,g4⟩:=elem_name hel;have hw1:=name_word g1;have hl:=name_len g1;have h91:=word_no91 hw1;have h5:=dec_five (elemDig s).toNat (by omega)
  have hsb:s.data.toList=(cutA s 91).data.toList++91::(Lib.decDigits (elemDig s).toNat++[93]):=by
   have:=congrArg (fun s:ByteArray=>s.data.toList) g4;simp only[elemNm,decS]at this;rw[←this];simp[mark1]
  generalize (cutA s 91).data.toList=x at *;generalize Lib.decDigits (elemDig s).toNat=d at *;have hss:s=bs (x++91::(d++[93])):=by rw[←hsb,bs_self]
  rw[hss];have hix:=index_at x (d++[93]) h91;have hlen:(x++91::(d++[93])).length=x.length+(d.length+2):=by simp
  have s1:=sub_hi (x++91::(d++[93])) x.length (by rw[hlen];omega);rw[List.take_left]at s1;have s2:=sub_lo (x++91::(d++[93])) (x.length+1) (by rw[hlen];omega)
  have hdr:(x++91::(d++[93])).drop (x.length+1)=d++[93]:=by
   rw[←List.drop_drop,List.drop_left];rfl
  rw[hdr]at s2;have a1:binV .add (V.d (dstr (bs x))) (V.d (dstr ⟨#[64]⟩))=some (V.d (dstr (bs (x++[64])))):=add_bs x [64] (by simp;omega)
  have a2:binV .add (V.d (dstr (bs (x++[64])))) (V.d (dstr (bs d)))=some (V.d (dstr (bs (x++64::d)))):=by
   have:=add_bs (x++[64]) d (by simp;omega);rw[this,List.append_assoc];rfl
  have hw2:IntKind.i64.wrap (((x.length:Nat):Int)+1)=((x.length+1:Nat):Int):=by rw[wrap_i64 (by omega) (by omega)];omega
  have hif:=indexByte_fun (x++91::(d++[93])) (by rw[hlen];omega);rw[hix]at hif;generalize x++91::(d++[93])=T at *;simp -dsimp -implicitDefEqProofs only[aw,slots0,V.copy,V.lend,V.lend1,V.cells,V.boxable,over,bldV,boundV,rowsOf,plains,V.plain,Nat.reduceLeDiff,cond_true,cond_false,implies_true,eq_self,ne_eq,reduceIte,reduceCtorEq,Nat.reduceBEq,Nat.reduceLT,Nat.reduceEqDiff,Nat.reduceAdd,Nat.reduceSub,Nat.reduceMul];refine fun_ret (hif _) ?_;simp -dsimp -implicitDefEqProofs only[aw,slots0,V.copy,V.lend,V.lend1,V.cells,V.boxable,over,bldV,boundV,rowsOf,plains,V.plain,Nat.reduceLeDiff,cond_true,cond_false,implies_true,eq_self,ne_eq,reduceIte,reduceCtorEq,Nat.reduceBEq,Nat.reduceLT,Nat.reduceEqDiff,Nat.reduceAdd,Nat.reduceSub,Nat.reduceMul,decide_eq_true (show(0:Int)≤((x.length:Nat):Int)by omega),s1,a1,hw2,s2];refine calm_ret (trim_fun d (by omega) _) ?_
  simp -dsimp -implicitDefEqProofs only[aw,slots0,V.copy,V.lend,V.lend1,V.cells,V.boxable,over,bldV,boundV,rowsOf,plains,V.plain,Nat.reduceLeDiff,cond_true,cond_false,implies_true,eq_self,ne_eq,reduceIte,reduceCtorEq,Nat.reduceBEq,Nat.reduceLT,Nat.reduceEqDiff,Nat.reduceAdd,Nat.reduceSub,Nat.reduceMul,a2];first|exact fin_ret hb rfl rfl List.take_length ⟨rfl,rfl⟩|exact fin_ret hb rfl rfl List.take_left ⟨rfl,rfl⟩|(trace_state;fail "fin")
 ·rw[if_neg hel];have hn:=h.resolve_left hel;have hix:=index_none s.data.toList (word_no91 (name_word hn));have hif:=indexByte_fun s.data.toList (by have:=name_len hn;omega);rw[hix,bs_self]at hif;simp -dsimp -implicitDefEqProofs only[aw,slots0,V.copy,V.lend,V.lend1,V.cells,V.boxable,over,bldV,boundV,rowsOf,plains,V.plain,Nat.reduceLeDiff,cond_true,cond_false,implies_true,eq_self,ne_eq,reduceIte,reduceCtorEq,Nat.reduceBEq,Nat.reduceLT,Nat.reduceEqDiff,Nat.reduceAdd,Nat.reduceSub,Nat.reduceMul];refine fun_ret (hif _) ?_;simp -dsimp -implicitDefEqProofs only[aw,slots0,V.copy,V.lend,V.lend1,V.cells,V.boxable,over,bldV,boundV,rowsOf,plains,V.plain,Nat.reduceLeDiff,cond_true,cond_false,implies_true,eq_self,ne_eq,reduceIte,reduceCtorEq,Nat.reduceBEq,Nat.reduceLT,Nat.reduceEqDiff,Nat.reduceAdd,Nat.reduceSub,Nat.reduceMul,Int.reduceLE,decide_false];rw[bs_self]
  first|exact fin_ret hb rfl rfl List.take_length ⟨rfl,rfl⟩|exact fin_ret hb rfl rfl List.take_left ⟨rfl,rfl⟩|(trace_state;fail "fin")
theorem Ex.ind2{P:Ex→Prop}(h:∀e:Ex,(∀a,a∈e.args→P a)→P e):∀e,P e:=Ex.ind fun o n s l ih=>h (.mk o n s l) ih
end Go.Proofs.YtcbahpllcfbkmaaGreatDoor
