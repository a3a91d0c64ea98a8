import Derived.Lib.AtoiErrMem
import Derived.Test.YtcbahpllcfbkmaaGreatDoorEt1
import Derived.Test.YtcbahpllcfbkmaaGreatDoorBr8
set_option linter.unusedVariables false
set_option linter.unusedSimpArgs false
set_option linter.unusedSectionVars false
namespace Go.Proofs.YtcbahpllcfbkmaaGreatDoor
open Go.RowKit
theorem fun_joins(sep:Bs)(l:List ByteArray)(hn:l.length≤140737488355328)(hlen:(Lib.join (l.map (·.data.toList)) sep).length≤140737488355328)(σ:List (List V)):
 Fun G 24 [.d (dstrs l),.d (dstr (bs sep))] σ (RetV (.d (dstr (bs (Lib.join (l.map (·.data.toList)) sep)))) σ):=
 fun_of2 Tryz.func24 (by kernel_rfl) (by kernel_rfl) (by show(bs _).size≤maxLen;rw[bs_size];unfold maxLen;omega) fun M bm pr w v v' hG hM h1 h2=>by
  cases rep_lit h2;obtain⟨p,cap,rfl,g1,g2,g3⟩:=strsval_of hM h1;by_cases h0:l=[]
  ·subst h0;exact same_ext (Tryz.strings_Join_none p cap (bs sep) w)
  ·have hp:0<l.length:=List.length_pos_iff.2 h0;obtain⟨b,off,rfl,g4⟩:=g3 0 (l[0]'hp) (List.getElem?_eq_getElem hp)
   have h:=Tryz.strings_Join b off cap l (bs sep) w (fun j x hj=>by
    obtain⟨b',off',e,g5⟩:=g3 j x hj;cases e;exact g5) (Lib.lt_of_cell g4) hn g1 (by rw[bs_list];exact hlen)
   rw[bs_list]at h;exact h
theorem suffix_fun(d:Bs)(hl:d.length≤1200000)(σ:List (List V)):Fun G 173 [.d (dstr (bs (d++[93]))),.d (dstr ⟨#[93]⟩)] σ (RetV (vbool true) σ):=by
 refine fun_code Tryz.func173 k173 rfl fun hb hw=>?_;unfold c173;have hn:(d++[93]).length=d.length+1:=by simp
 have h1:((⟨#[93]⟩:ByteArray).size:Int)=1:=rfl;have hle:(1:Int)≤(((d++[93]).length:Nat):Int):=by rw[hn];omega
 have hw1:IntKind.i64.wrap ((((d++[93]).length:Nat):Int)-1)=((d.length:Nat):Int):=by rw[hn,wrap_i64 (by omega) (by omega)];omega
 have hs:=sub_lo (d++[93]) d.length (by rw[hn];omega);rw[List.drop_left]at hs;have he:decide (bs [93]=(⟨#[93]⟩:ByteArray))=true:=by rw[decide_eq_true_eq];rfl
 generalize d++[93]=dt at *;simp -dsimp -implicitDefEqProofs only[aw,slots0,V.copy,cond_true,eq_self,reduceIte,reduceCtorEq,Nat.reduceBEq,Nat.reduceLT,Nat.reduceEqDiff,bs_size,h1,decide_eq_true hle,hw1,hs,he];first|exact fin_ret hb rfl rfl List.take_length ⟨rfl,rfl⟩|exact fin_ret hb rfl rfl List.take_left ⟨rfl,rfl⟩|(trace_state;fail "fin")
theorem trim0_fun(d:Bs)(hl:d.length≤1200000)(σ:List (List V)):Fun G 161 [.d (dstr (bs (d++[93]))),.d (dstr ⟨#[93]⟩)] σ (RetV (.d (dstr (bs d))) σ):=by
 refine fun_code Tryz.func161 k161 rfl fun hb hw=>?_;unfold c161;have hn:(d++[93]).length=d.length+1:=by simp
 have h1:((⟨#[93]⟩:ByteArray).size:Int)=1:=rfl;have hw1:IntKind.i64.wrap ((((d++[93]).length:Nat):Int)-1)=((d.length:Nat):Int):=by rw[hn,wrap_i64 (by omega) (by omega)];omega
 have hs:=sub_hi (d++[93]) d.length (by rw[hn];omega);rw[List.take_left]at hs;have hf:=suffix_fun d hl;generalize d++[93]=dt at *;simp -dsimp -implicitDefEqProofs only[aw,slots0,V.copy,V.lend,eq_self,reduceIte,reduceCtorEq,Nat.reduceBEq,Nat.reduceLT,Nat.reduceEqDiff];refine fun_ret (hf _) ?_;simp -dsimp -implicitDefEqProofs only[aw,V.copy,eq_self,reduceIte,reduceCtorEq,Nat.reduceBEq,Nat.reduceLT,Nat.reduceEqDiff,bs_size,h1,hw1,hs];first|exact fin_ret hb rfl rfl List.take_length ⟨rfl,rfl⟩|exact fin_ret hb rfl rfl List.take_left ⟨rfl,rfl⟩|(trace_state;fail "fin")
theorem trim_fun(d:Bs)(hl:d.length≤1200000)(σ:List (List V)):Fun G 145 [.d (dstr (bs (d++[93]))),.d (dstr ⟨#[93]⟩)] σ (RetV (.d (dstr (bs d))) σ):=by
 refine fun_code Tryz.func145 k145 rfl fun hb hw=>?_;unfold c145;simp -dsimp -implicitDefEqProofs only[aw,slots0,V.copy,V.lend,eq_self,reduceIte,reduceCtorEq,Nat.reduceBEq,Nat.reduceLT,Nat.reduceEqDiff];refine fun_ret (trim0_fun d hl _) ?_;simp -dsimp -implicitDefEqProofs only[aw,V.copy,eq_self,reduceIte,reduceCtorEq,Nat.reduceBEq,Nat.reduceLT,Nat.reduceEqDiff];first|exact fin_ret hb rfl rfl List.take_length ⟨rfl,rfl⟩|exact fin_ret hb rfl rfl List.take_left ⟨rfl,rfl⟩|(trace_state;fail "fin")
theorem index_at:∀(x q:Bs),(∀c,c∈x→c≠91)→Lib.indexByte (x++91::q) 91=(x.length:Nat)
 | [],q,_=>rfl
 | a::x,q,h=>by
  have ih:=index_at x q fun c hc=>h c (by simp[hc]);have ha:(a==(91:UInt8))=false:=beq_eq_false_iff_ne.2 (h a (by simp));simp only[List.cons_append,Lib.indexByte,ha,ih,Bool.false_eq_true,if_false];rw[if_neg (by simp;try omega)];simp
theorem index_none:∀(x:Bs),(∀c,c∈x→c≠91)→Lib.indexByte x 91 = -1
 | [],_=>rfl
 | a::x,h=>by
  have ih:=index_none x fun c hc=>h c (by simp[hc]);have ha:(a==(91:UInt8))=false:=beq_eq_false_iff_ne.2 (h a (by simp));simp only[Lib.indexByte,ha,ih,Bool.false_eq_true,if_false];rfl
theorem indexByte_fun(l:Bs)(hl:l.length≤1200000)(σ:List (List V)):Fun G 171 [.d (dstr (bs l)),.d (.lit (.int .u8 91))] σ (RetV (.d (dint (Lib.indexByte l 91))) σ):=
 fun_lit2 Tryz.func171 (by kernel_rfl) (by kernel_rfl) (by
  have h1:=Lib.indexByte_ge l 91
  have h2:Lib.indexByte l 91≤l.length:=by
   clear h1 hl
   induction l with
   | nil=>simp[Lib.indexByte]
   | cons a r ih=>simp only[Lib.indexByte,List.length_cons];repeat' split
                  all_goals omega
  simp only[Fits,IntKind.min,IntKind.max,IntKind.signed,IntKind.bits];simp;omega) fun pr w _=>by
  have:=same_ext (Tryz.strings_IndexByte (bs l) 91 w);rw[bs_list]at this;exact this
theorem word_no91{l:Bs}(h:wordL l=true):∀c,c∈l→c≠91:=by
 intro c hc;cases l with
 | nil=>cases hc
 | cons a r=>
  simp only[wordL,Bool.and_eq_true]at h;have:=List.all_eq_true.1 h.2 c hc;rintro rfl;revert this;decide
theorem name_word{s:ByteArray}(h:nameB s=true):wordL s.data.toList=true:=by
 simp only[nameB,Bool.and_eq_true]at h;exact h.1.1
theorem etvar_fun(s:ByteArray)(h:isVarB s=true)(σ:List (List V)):Fun G 159 [.d (dstr s)] σ (RetV (.d (dstr (bs (textE (.mk 2 0 s []))))) σ):=by
 rw[text_var];unfold isVarB at h;rw[Bool.or_eq_true]at h;refine fun_code Tryz.func159 k159 rfl fun hb hw=>?_;unfold c159;by_cases hel:elemB s=true
 ·rw[if_pos hel];obtain⟨g1,g2,g3,g4⟩:=elem_name hel;have hw1:=name_word g1;have hl:=name_len g1;have h91:=word_no91 hw1;have h5:=dec_five (elemDig s).toNat (by omega)
  have hsb:s.data.toList=(cutA s 91).data.toList++91::(Lib.decDigits (elemDig s).toNat++[93]):=by
   have:=congrArg (fun s:ByteArray=>s.data.toList) g4;simp only[elemNm,decS]at this;rw[←this];simp[mark1]
  generalize (cutA s 91).data.toList=x at *;generalize Lib.decDigits (elemDig s).toNat=d at *;have hss:s=bs (x++91::(d++[93])):=by rw[←hsb,bs_self]
  rw[hss];have hix:=index_at x (d++[93]) h91;have hlen:(x++91::(d++[93])).length=x.length+(d.length+2):=by simp
  have s1:=sub_hi (x++91::(d++[93])) x.length (by rw[hlen];omega);rw[List.take_left]at s1;have s2:=sub_lo (x++91::(d++[93])) (x.length+1) (by rw[hlen];omega)
  have hdr:(x++91::(d++[93])).drop (x.length+1)=d++[93]:=by
   rw[←List.drop_drop,List.drop_left];rfl
  rw[hdr]at s2;have a1:binV .add (V.d (dstr (bs x))) (V.d (dstr ⟨#[64]⟩))=some (V.d (dstr (bs (x++[64])))):=add_bs x [64] (by simp;omega)
  have a2:binV .add (V.d (dstr (bs (x++[64])))) (V.d (dstr (bs d)))=some (V.d (dstr (bs (x++64::d)))):=by
   have:=add_bs (x++[64]) d (by simp;omega);rw[this,List.append_assoc];rfl
  have hw2:IntKind.i64.wrap (((x.length:Nat):Int)+1)=((x.length+1:Nat):Int):=by rw[wrap_i64 (by omega) (by omega)];omega
  have hif:=indexByte_fun (x++91::(d++[93])) (by rw[hlen];omega);rw[hix]at hif;generalize x++91::(d++[93])=T at *;simp -dsimp -implicitDefEqProofs only[aw,slots0,V.copy,V.lend,eq_self,reduceIte,reduceCtorEq,Nat.reduceBEq,Nat.reduceLT];refine fun_ret (hif _) ?_;simp -dsimp -implicitDefEqProofs only[aw,V.copy,V.lend,eq_self,reduceIte,reduceCtorEq,Nat.reduceBEq,Nat.reduceLT,Nat.reduceEqDiff,decide_eq_true (show(0:Int)≤((x.length:Nat):Int)by omega),s1,a1,hw2,s2];refine calm_ret (trim_fun d (by omega) _) ?_;simp -dsimp -implicitDefEqProofs only[aw,V.copy,eq_self,reduceIte,reduceCtorEq,Nat.reduceBEq,Nat.reduceLT,Nat.reduceEqDiff,a2];first|exact fin_ret hb rfl rfl List.take_length ⟨rfl,rfl⟩|exact fin_ret hb rfl rfl List.take_left ⟨rfl,rfl⟩|(trace_state;fail "fin")
 ·rw[if_neg hel];have hn:=h.resolve_left hel;have hix:=index_none s.data.toList (word_no91 (name_word hn));have hif:=indexByte_fun s.data.toList (by have:=name_len hn;omega);rw[hix,bs_self]at hif;simp -dsimp -implicitDefEqProofs only[aw,slots0,V.copy,V.lend,eq_self,reduceIte,reduceCtorEq,Nat.reduceBEq,Nat.reduceLT];refine fun_ret (hif _) ?_;simp -dsimp -implicitDefEqProofs only[aw,V.copy,eq_self,reduceIte,reduceCtorEq,Nat.reduceBEq,Nat.reduceLT,Nat.reduceEqDiff,Int.reduceLE,decide_false];rw[bs_self];first|exact fin_ret hb rfl rfl List.take_length ⟨rfl,rfl⟩|exact fin_ret hb rfl rfl List.take_left ⟨rfl,rfl⟩|(trace_state;fail "fin")
mutual
def sameE:Ex→Ex→Bool
 | .mk o n s l,.mk o' n' s' l'=>(decide (o=o')&&(decide (n=n')&&(decide (s=s')&&sameL l l')))
def sameL:List Ex→List Ex→Bool
 | [],[]=>true
 | a::r,b::r'=>sameE a b&&sameL r r'
 | _,_=>false
end
theorem sameL_len:∀{l l':List Ex},l.length≠l'.length→sameL l l'=false
 | [],[],h=>absurd rfl h
 | a::r,b::r',h=>by simp only[sameL,sameL_len (l:=r) (l':=r') (by simpa using h),Bool.and_false]
 | [],_::_,_=>rfl
 | _::_,[],_=>rfl
theorem sameE_eq(a b:Ex):sameE a b=(decide (a.op=b.op)&&(decide (a.num=b.num)&&(decide (a.name=b.name)&&sameL a.args b.args))):=by
 cases a;cases b;rfl
theorem Ex.ind2{P:Ex→Prop}(h:∀e:Ex,(∀a,a∈e.args→P a)→P e):∀e,P e:=Ex.ind fun o n s l ih=>h (.mk o n s l) ih
theorem sameL_step{l l':List Ex}{j:Nat}(h:j<l.length)(h':j<l'.length):sameL (l.drop j) (l'.drop j)=(sameE l[j] l'[j]&&sameL (l.drop (j+1)) (l'.drop (j+1))):=by
 rw[List.drop_eq_getElem_cons h,List.drop_eq_getElem_cons h'];rfl
theorem rsame_fun(a:Ex):∀(b:Ex) (σ:List (List V)),Fun G 81 [vex a,vex b] σ (RetV (vbool (sameE a b)) σ):=by
 induction a using Ex.ind2 with
 | h a ih=>
 intro b σ;refine fun_code Tryz.func81 k81 (by simp only[vex_eq];rfl) fun hb hw=>?_;have hq:=sameE_eq a b;have h0:=hw 0 (by simp);simp only[List.getElem_cons_zero,vex_eq]at h0;have hm:=wf_len (wf_cell h0 3 (by simp));simp only[List.length_map]at hm
 have out:∀(σ' l:List (List V)) (b1:Bool),sameE a b=b1→σ'=σ++l→fin σ.length rs81 (RetV (vbool (sameE a b)) σ) .ret [(4,.d (.lit (.bool b1)))] σ':=fun σ' l b1 h e=>by
  subst e;exact fin_ret hb rfl rfl List.take_left ⟨by rw[h];rfl,rfl⟩
 unfold c81;simp -dsimp -implicitDefEqProofs only[aw,slots0,V.copy,V.cells,V.boxable,Nat.reduceLeDiff,eq_self,reduceIte,reduceCtorEq,Nat.reduceBEq,Nat.reduceLT,Nat.reduceEqDiff,Nat.reduceAdd,vex_eq];refine iteT_intro (fun h1=>?_) (fun h1=>?_)
 ·simp -dsimp -implicitDefEqProofs only[aw,V.copy,Nat.reduceLeDiff,cond_false,eq_self,reduceIte,Nat.reduceLT,Nat.reduceEqDiff,Nat.reduceAdd];refine iteT_intro (fun h2=>?_) (fun h2=>?_)
  ·simp -dsimp -implicitDefEqProofs only[aw,V.copy,Nat.reduceLeDiff,cond_false,eq_self,reduceIte,Nat.reduceLT,Nat.reduceEqDiff,Nat.reduceAdd];refine iteT_intro (fun h3=>?_) (fun h3=>?_)
   ·simp -dsimp -implicitDefEqProofs only[aw,V.copy,Nat.reduceLeDiff,cond_false,eq_self,reduceIte,Nat.reduceBEq,Nat.reduceLT,Nat.reduceEqDiff,Nat.reduceAdd,Int.ofNat_inj];refine iteT_intro (fun h4=>?_) (fun h4=>?_)
    ·simp -dsimp -implicitDefEqProofs only[aw,V.copy,eq_self,reduceIte,Nat.reduceBEq,Nat.reduceLT,Nat.reduceEqDiff];exact out _ _ _ (by rw[hq,sameL_len (by simpa using h4)];simp) rfl
    ·simp -dsimp -implicitDefEqProofs only[aw,V.copy,eq_self,reduceIte,Nat.reduceBEq,Nat.reduceLT,Nat.reduceEqDiff];have h4:a.args.length=b.args.length:=by simpa using h4
     generalize hbx:[[V.d (dint a.op),V.d (dint a.num),V.d (dstr a.name),V.d (D.sl (List.map dex a.args))],[V.d (dint b.op),V.d (dint b.num),V.d (dstr b.name),V.d (D.sl (List.map dex b.args))]]=bx at out ⊢;refine awp_for (R:=fun(j:Nat) ρ σ'=>ρ=[(2,.ptr σ.length 0),(3,.ptr (σ.length+1) 0),(5,vint .i64 j)]∧σ'=σ++bx∧sameL a.args b.args=sameL (a.args.drop j) (b.args.drop j)) a.args.length ⟨rfl,rfl,by simp⟩ ?_ _;rintro j ρ' σ' hj ⟨rfl,rfl,hrec⟩;subst hbx;by_cases hlt:j<a.args.length
     ·have hlt':j<b.args.length:=by omega
      simp -dsimp -implicitDefEqProofs only[aw,V.copy,V.lend,V.lend1,Nat.reduceLeDiff,eq_self,reduceIte,Nat.reduceBEq,Nat.reduceLT,Nat.reduceEqDiff,Nat.reduceAdd,Int.ofNat_lt,hlt,decide_true,List.getElem?_eq_getElem hlt,List.getElem?_eq_getElem hlt',dex_eq];refine calm_ret (by simpa only[vex_eq]using ih _ (List.getElem_mem hlt) _ _) ?_;simp -dsimp -implicitDefEqProofs only[aw,V.copy,eq_self,reduceIte,Nat.reduceBEq,Nat.reduceLT,Nat.reduceEqDiff];refine iteT_intro (fun hs=>?_) (fun hs=>?_)
      ·simp -dsimp -implicitDefEqProofs only[aw,V.copy,eq_self,reduceIte,Nat.reduceBEq,Nat.reduceLT,Nat.reduceEqDiff];exact out _ _ _ (by rw[hq,hrec,sameL_step hlt hlt'];simp_all) rfl
      ·simp -dsimp -implicitDefEqProofs only[aw,V.copy,eq_self,reduceIte,Nat.reduceBEq,Nat.reduceLT,Nat.reduceEqDiff,wrap_nat hlt hm];refine⟨hlt,Nxt.same (by simp) (boxesBelow_app hb rfl) ?_ ?_⟩
       ·simp[slotsBelow,V.under]
       ·exact⟨rfl,rfl,by rw[hrec,sameL_step hlt hlt'];simp_all⟩
     ·simp -dsimp -implicitDefEqProofs only[aw,V.copy,Nat.reduceLeDiff,eq_self,reduceIte,Nat.reduceBEq,Nat.reduceLT,Nat.reduceEqDiff,Nat.reduceAdd,Int.ofNat_lt,hlt,decide_false];exact out _ _ _ (by rw[hq,hrec,List.drop_of_length_le (by omega),List.drop_of_length_le (by omega)];simp_all[sameL]) rfl
   ·simp -dsimp -implicitDefEqProofs only[aw,V.copy,eq_self,reduceIte,Nat.reduceBEq,Nat.reduceLT,Nat.reduceEqDiff];exact out _ _ _ (by rw[hq];simp_all) rfl
  ·simp -dsimp -implicitDefEqProofs only[aw,V.copy,eq_self,reduceIte,Nat.reduceBEq,Nat.reduceLT,Nat.reduceEqDiff];exact out _ _ _ (by rw[hq];simp_all) rfl
 ·simp -dsimp -implicitDefEqProofs only[aw,V.copy,eq_self,reduceIte,Nat.reduceBEq,Nat.reduceLT,Nat.reduceEqDiff];exact out _ _ _ (by rw[hq];simp_all) rfl
end Go.Proofs.YtcbahpllcfbkmaaGreatDoor
