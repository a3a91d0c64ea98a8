import Derived.Test.YtcbahpllcfbkmaaGreatDoorCt6
import Derived.Test.YtcbahpllcfbkmaaGreatDoorK3
import Derived.Test.YtcbahpllcfbkmaaGreatDoorBl2
import Derived.Test.YtcbahpllcfbkmaaGreatDoorEt3
import Derived.Test.YtcbahpllcfbkmaaGreatDoorK5
import Derived.Test.YtcbahpllcfbkmaaGreatDoorLib7
set_option linter.unusedVariables false
set_option linter.unusedSimpArgs false
set_option linter.unusedSectionVars false
namespace Go.Proofs.YtcbahpllcfbkmaaGreatDoor
open Go.RowKit
structure Fl where
 name:ByteArray
 width:Int
 size:Int
 mode:Int
 init:Int
structure Kl where
 name:ByteArray
 par:ByteArray
 flds:List Fl
 blks:List (ByteArray×List It)
def modeT(m:Int):Bs:=if m=1 then[114,97,110,100,32]else if m=2 then[114,97,110,100,99,32]else[115,116,97,116,101,32]
def fldT(f:Fl):Bs:=modeT f.mode++(strT f.name++((if 0<f.size then 91::(numT f.size++[93])else[])++([32,58,32]++(numT f.width++((if f.mode=0 then[32,61,32]++numT f.init else[])++[59])))))
def blkL(b:ByteArray×List It):List Ln:=(0,[99,111,110,115,116,114,97,105,110,116,32]++(strT b.1++[32,123]))::(upL (lns b.2)++[(0,[125])])
def parT(p:ByteArray):Bs:=if p=⟨#[]⟩then[]else[32,101,120,116,101,110,100,115,32]++strT p
def clsL(c:Kl):List Ln:=(0,[99,108,97,115,115,32]++(strT c.name++(parT c.par++[32,123])))::(upL (c.flds.map (fun f=>(0,fldT f))++c.blks.flatMap blkL)++[(0,[125])])
def clsT(c:Kl):Bs:=lnsT 0 (clsL c)
theorem clsT_ne(c:Kl):clsT c≠[]:=by
 unfold clsT clsL;show lnT 0 _++_≠[];unfold lnT blk;simp
theorem fun_to{C:Cx}{f:FuncId}{args:List V}{σ σ1:List (List V)}{v:V}{K P:V→List (List V)→Prop}{s:Tag K}{t:Tag P}(h:Fun C f args σ (fun o σ'=>o=.ret v∧σ'=σ1))(hk:K v σ1):FunT C f args σ K P s t:=
 h.mono fun o σ' ⟨e1,e2⟩=>by subst e1;subst e2;exact hk
theorem fin_en{n0 k:Nat}{σ' τ:List (List V)}{ρ:Slots}{rs:List RV}{Q:Out→List (List V)→Prop}(hk:n0≤k)(ht:σ'.take k=τ)(hb:boxesBelow k τ=true){v:V}(h:resV σ' ρ rs=some v)(hv:V.under k v=true)(hq:Q (.ret v) τ):fin n0 rs Q .normal ρ σ':=
 ⟨ρ,σ',.refl _ _ _,v,h,k,hk,by rw[ht];exact hb,hv,by rw[ht];exact hq⟩
theorem bbset{σ:List (List V)}{k i:Nat}{cs:List V}(h:boxesBelow k σ=true)(hc:V.unders k cs=true):boxesBelow k (σ.set i cs)=true:=by
 unfold boxesBelow at h ⊢;rw[List.all_eq_true]at h ⊢;intro x hx;rcases List.mem_or_eq_of_mem_set hx with hx|rfl
 ·exact h x hx
 ·exact hc
theorem pg_under{i k n:Nat}{t:Option Bs}(h:i<n):V.unders n (pgc i t k)=true:=by
 cases t with
 | none=>rfl
 | some t=>simp[pgc,pgu,V.unders,V.under,h]
theorem ld_page(i:Nat)(t:Option Bs)(k:Int):(if 3≤(pgc i t k).length∧noMap (pgc i t k)=true then packV false (List.take 1 (List.drop 2 (pgc i t k)))else(tyL 1 2 (pgc i t k)).bind (packV false))=some (.d (dint k)):=by
 cases t with
 | none=>rw[if_neg (fun h=>by have:=h.1;simp[pgc,tyc]at this)];rfl
 | some t=>rw[if_pos ⟨by simp[pgc,pgu],rfl⟩];rfl
theorem blk_rep:∀k,Lib.repeatL [32,32,32,32] k=blk k
 | 0=>rfl
 | k+1=>by
  rw[Lib.repeatL,blk_rep k,blk_up]
theorem blk_len(k:Nat):(blk k).length=4*k:=List.length_replicate
theorem repeat_fun(k:Nat)(hk:k≤1000)(σ:List (List V)):Fun G 47 [.d (dstr ⟨#[32,32,32,32]⟩),.d (dint k)] σ (RetV (.d (dstr (bs (blk k)))) σ):=
 fun_lit2 Tryz.func47 (by kernel_rfl) (by kernel_rfl) (by show(bs (blk k)).size≤maxLen;rw[bs_size,blk_len];unfold maxLen;omega) fun pr w _=>
  (Tryz.strings_Repeat ⟨#[32,32,32,32]⟩ k w (by omega) (by show 4*k≤_;omega)).mono fun e w' ⟨he,hb⟩=>⟨by rw[he];show _=Ending.returned (.string (bs (blk k)));rw[←blk_rep k];rfl,hb⟩
theorem ws_bs(i:Nat)(t:Option Bs)(k:Int)(l:Bs)(hl:(t.getD []).length+l.length≤140737488355328)(σ:List (List V))(hs:σ[i]? = some (pgc i t k)):
 Fun G 44 [.ptr i 0,.d (dstr (bs l))] σ (fun o σ'=>o=.ret (.tup [.d (dint l.length),.d (.lit .nilIface)])∧σ'=σ.set i (pgc i (some (t.getD []++l)) k)):=by
 have h:=ws_fun i t k (bs l) (by rw[bs_size];exact hl) σ hs;rw[bs_list,bs_size]at h;exact h
set_option maxHeartbeats 4000000 in
theorem line_fun(i:Nat)(t:Option Bs)(k:Nat)(ps:List ByteArray)(hk:k≤1000)(hl:(t.getD []).length+4*k+(ps.flatMap strT).length+1≤140737488355328)(hp:ps.length≤1000)(σ:List (List V))(hs:σ[i]? = some (pgc i t k)):
 Fun G 28 [.ptr i 0,.d (dstrs ps)] σ (fun o σ'=>o=.ret (.tup [])∧σ'=σ.set i (pgc i (some (t.getD []++(blk k++(ps.flatMap strT++[10])))) k)):=by
 refine fun_code Tryz.func28 k28 rfl fun hb hw=>?_;have hi:i<σ.length:=(List.getElem?_eq_some_iff.1 hs).1;have h1:∀X:List V,(σ.set i X)[i]? = some X:=fun X=>List.getElem?_set_self hi;have h2:∀X Y:List V,(σ.set i X).set i Y=σ.set i Y:=fun X Y=>List.set_set X
 have bbt:∀t:Bs,boxesBelow (σ.set i (pgc i (some t) k)).length (σ.set i (pgc i (some t) k))=true:=fun t=>by
  rw[List.length_set];exact bbset hb (pg_under hi)
 have hbk:=blk_len k;unfold c28;simp -dsimp -implicitDefEqProofs only[aw,slots0,V.copy,V.lend,eq_self,reduceIte,reduceCtorEq,Nat.reduceLT,Nat.reduceEqDiff,Nat.reduceAdd,Nat.reduceSub,hs,ld_page];refine calm_ret (repeat_fun k hk _) ?_;simp -dsimp -implicitDefEqProofs only[aw,V.lend,eq_self,reduceIte,reduceCtorEq,Nat.reduceLT,Nat.reduceEqDiff,Nat.reduceSub];refine actG_ret (ws_bs i t k (blk k) (by omega) _ hs) ?_ ?_
 ·simp -dsimp -implicitDefEqProofs only[aw]
 simp -dsimp -implicitDefEqProofs only[aw,V.copy,eq_self,reduceIte,reduceCtorEq,Nat.reduceBEq,Nat.reduceLT,Nat.reduceEqDiff,dstrs];refine awp_forK [0,15,16,17] (fun(j:Nat) ρ σ'=>ρ=[(0,.ptr i 0),(15,.d (.sl (ps.map fun s=>[dstr s]))),(16,vint .i64 ps.length),(17,vint .i64 j)]∧σ'=σ.set i (pgc i (some (t.getD []++blk k++(ps.take j).flatMap strT)) k)) ps.length ⟨rfl,by simp⟩ ?_ _;rintro j ρ' σ' hj ⟨rfl,rfl⟩
 have hlen:∀j,((ps.take j).flatMap strT).length≤(ps.flatMap strT).length:=fun j=>by
  have:=congrArg List.length (List.flatMap_append (f:=strT) (xs:=ps.take j) (ys:=ps.drop j));rw[List.take_append_drop,List.length_append]at this;omega
 by_cases hlt:j<ps.length
 ·have wj:=wrap_nat hlt (show ps.length≤9223372036854775807 by omega);have hn:(ps.take (j+1)).flatMap strT=(ps.take j).flatMap strT++strT ps[j]:=by rw[List.take_succ_eq_append_getElem hlt,List.flatMap_append];simp
  have hlj:=hlen (j+1);rw[hn,List.length_append]at hlj;simp -dsimp -implicitDefEqProofs only[aw,V.copy,V.lend,Nat.reduceLeDiff,eq_self,reduceIte,reduceCtorEq,Nat.reduceBEq,Nat.reduceLT,Nat.reduceEqDiff,Int.ofNat_lt,hlt,decide_true,List.getElem?_eq_getElem hlt];refine fun_to (ws_fun i _ k ps[j] (by simp only[Option.getD_some,List.length_append];have:ps[j].size=(strT ps[j]).length:=rfl;omega) _ (h1 _)) ?_;simp -dsimp -implicitDefEqProofs only[aw,V.copy,eq_self,reduceIte,reduceCtorEq,Nat.reduceBEq,Nat.reduceLT,Nat.reduceEqDiff,wj,h2];exact⟨hlt,Nxt.same (by simp) (bbt _) (by simp[slotsBelow,V.under];exact hi) ⟨rfl,by rw[hn];simp[strT,List.append_assoc]⟩⟩
 ·have hj':j=ps.length:=by omega
  subst hj';simp -dsimp -implicitDefEqProofs only[aw,V.copy,V.lend,eq_self,reduceIte,reduceCtorEq,Nat.reduceBEq,Nat.reduceLT,Nat.reduceEqDiff,Int.ofNat_lt,hlt,decide_false];refine fun_to (ws_bs i _ k [10] (by simp only[Option.getD_some,List.length_append,List.take_length,List.length_cons,List.length_nil];omega) _ (h1 _)) ?_;simp -dsimp -implicitDefEqProofs only[aw,reduceIte,reduceCtorEq,Nat.reduceLT,Nat.reduceEqDiff,h2];refine fin_en (v:=.tup []) (k:=σ.length) (τ:=σ.set i (pgc i (some (t.getD []++blk k++(ps.take ps.length).flatMap strT++[10])) k)) (Nat.le_refl _) ?_ (bbset hb (pg_under hi)) rfl rfl ⟨rfl,?_⟩
  ·rw[List.take_of_length_le (by simp)];simp[List.append_assoc]
  ·first|rfl|(rw[List.take_length,List.append_assoc,List.append_assoc,List.append_assoc])|simp[List.append_assoc]
theorem join_sep(sep:Bs):∀L:List Bs,Lib.join L sep=sepT sep L
 | []=>rfl
 | [a]=>by simp[Lib.join,List.intercalate,sepT]
 | a::b::r=>by
  have:=join_sep sep (b::r);unfold Lib.join List.intercalate at this;rw[sepT,←this];simp[Lib.join,List.intercalate]
theorem el_list{s:ByteArray}(h:elemB s=true):s.data.toList=(cutA s 91).data.toList++91::(Lib.decDigits (elemDig s).toNat++[93]):=by
 obtain⟨-,-,-,g4⟩:=elem_name h;have:=congrArg (fun s:ByteArray=>s.data.toList) g4;simp only[elemNm,decS]at this;rw[←this];simp[mark1]
theorem cutB_el{s:ByteArray}(h:elemB s=true):cutB s 91=bs (Lib.decDigits (elemDig s).toNat++[93]):=by
 obtain⟨g1,-,-,-⟩:=elem_name h;have hl:=el_list h;have hix:=index_at (cutA s 91).data.toList (Lib.decDigits (elemDig s).toNat++[93]) (word_no91 (name_word g1));rw[←hl]at hix;unfold cutB;rw[hix,if_neg (by omega)];have hsz:s.size=s.data.toList.length:=rfl
 have key:(s.extract (((cutA s 91).data.toList.length:Nat)+1) s.size).data.toList=Lib.decDigits (elemDig s).toNat++[93]:=by
  have e:(s.extract (((cutA s 91).data.toList.length:Nat)+1) s.size).data.toList=s.data.toList.drop ((cutA s 91).data.toList.length+1):=by
   simp;apply List.take_of_length_le;rw[List.length_drop];have:s.size=s.data.size:=rfl;first|(simp;done)|(simp;omega)
  rw[e,hl,←List.drop_drop,List.drop_left];rfl
 show s.extract ((((cutA s 91).data.toList.length:Nat):Int).toNat+1) s.size=_;rw[Int.toNat_natCast,←key,bs_self]
theorem cutOk_el{s:ByteArray}(h:elemB s=true):cutOk s 91=true:=by
 unfold elemB at h;simp only[Bool.and_eq_true]at h;exact h.1.1
theorem cutOk_nm{s:ByteArray}(h:nameB s=true):cutOk s 91=false:=by
 unfold cutOk;rw[index_none _ (word_no91 (name_word h))];rfl
theorem sum_bs{a b c:Bs}(h:a++b=c)(hl:a.length+b.length≤9223372036854775807):binV .add (V.d (dstr (bs a))) (V.d (dstr (bs b)))=some (V.d (dstr (bs c))):=by rw[add_bs _ _ hl,h]
theorem ctcut_fun(s:ByteArray)(σ:List (List V)):Fun G 144 [.d (dstr s),.d (dstr ⟨#[91]⟩)] σ (RetV (.tup [.d (dstr (cutA s 91)),.d (dstr (cutB s 91)),.d (.lit (.bool (cutOk s 91)))]) σ):=
 fun_of_newc Tryz.func144 (by kernel_rfl) (by kernel_rfl) (fun _ _ _ h=>by cases h) fun M bm w vs hG hM hl hr=>match vs,hl with
  | [v,v'],_=>by
   have h1:Rep M bm (.d (dstr s)) v:=hr 0 (by simp) (by simp);have h2:Rep M bm (.d (dstr ⟨#[91]⟩)) v':=hr 1 (by simp) (by simp);cases h1 with|d h1=>cases h1 with|lit _ hf=>cases h2 with|d h2=>cases h2 with|lit _ _=>
   have hf:s.size≤maxLen:=hf;refine(cut_any s 91 w (by simpa[maxLen]using hf)).mono fun en w' ⟨g1,g2⟩=>⟨_,g1,g2,?_⟩
   refine .tup (vs:=[.string (cutA s 91),.string (cutB s 91),.bool (cutOk s 91)]) rfl fun i g g'=>?_
   match i,g with
   | 0,_=>exact .d (.lit _ (Nat.le_trans (cutA_le s 91) hf))
   | 1,_=>exact .d (.lit _ (Nat.le_trans (cutB_le s 91) hf))
   | 2,_=>exact .d (.lit _ trivial)
theorem ctvar_fun(s:ByteArray)(h:isVarB s=true)(σ:List (List V)):Fun G 122 [.d (dstr s)] σ (RetV (.d (dstr s)) σ):=by
 refine fun_code Tryz.func122 k122 rfl fun hb hw=>?_;unfold c122;have hc:=ctcut_fun s;by_cases hel:elemB s=true
 ·obtain⟨g1,g2,g3,-⟩:=elem_name hel;have hl:=name_len g1;have h5:=dec_five (elemDig s).toNat (by omega);have hss:s=bs ((cutA s 91).data.toList++91::(Lib.decDigits (elemDig s).toNat++[93])):=by rw[←el_list hel,bs_self]
  have hA:cutA s 91=bs (cutA s 91).data.toList:=(bs_self _).symm;rw[cutOk_el hel,cutB_el hel]at hc;generalize (cutA s 91).data.toList=x at *;generalize Lib.decDigits (elemDig s).toNat=d at *;rw[hA]at hc;have a1:binV .add (V.d (dstr (bs x))) (V.d (dstr ⟨#[91]⟩))=some (V.d (dstr (bs (x++[91])))):=add_bs x [91] (by simp;omega);have a2:=sum_bs (a:=x++[91]) (b:=d) (c:=x++91::d) (by simp) (by simp;omega);have a3:binV .add (V.d (dstr (bs (x++91::d)))) (V.d (dstr ⟨#[93]⟩))=_:=sum_bs (a:=x++91::d) (b:=[93]) (c:=x++91::(d++[93])) (by simp) (by simp;omega);simp -dsimp -implicitDefEqProofs only[aw,slots0,V.copy,V.lend,eq_self,reduceIte,reduceCtorEq,Nat.reduceBEq,Nat.reduceLT];refine fun_ret (hc _) ?_;simp -dsimp -implicitDefEqProofs only[aw,V.copy,V.lend,eq_self,reduceIte,reduceCtorEq,Nat.reduceBEq,Nat.reduceLT,Nat.reduceEqDiff,a1];refine fun_ret (trim_fun d (by omega) _) ?_
  simp -dsimp -implicitDefEqProofs only[aw,V.copy,eq_self,reduceIte,reduceCtorEq,Nat.reduceBEq,Nat.reduceLT,Nat.reduceEqDiff,a2,a3];rw[←hss];first|exact fin_ret hb rfl rfl List.take_length ⟨rfl,rfl⟩|exact fin_ret hb rfl rfl List.take_left ⟨rfl,rfl⟩|(trace_state;fail "fin")
 ·have hn:nameB s=true:=by
   unfold isVarB at h;rw[Bool.or_eq_true]at h;exact h.resolve_left hel
  rw[cutOk_nm hn]at hc;simp -dsimp -implicitDefEqProofs only[aw,slots0,V.copy,V.lend,eq_self,reduceIte,reduceCtorEq,Nat.reduceBEq,Nat.reduceLT];refine fun_ret (hc _) ?_;simp -dsimp -implicitDefEqProofs only[aw,V.copy,eq_self,reduceIte,reduceCtorEq,Nat.reduceBEq,Nat.reduceLT,Nat.reduceEqDiff];first|exact fin_ret hb rfl rfl List.take_length ⟨rfl,rfl⟩|exact fin_ret hb rfl rfl List.take_left ⟨rfl,rfl⟩|(trace_state;fail "fin")
theorem ctvars_fun(l:List ByteArray)(h:∀s,s∈l→isVarB s=true)(hl:l.length≤1200000)(σ:List (List V)):Fun G 126 [.d (dstrs l)] σ (RetV (.d (dstr (bs (sepT [44,32] (l.map strT))))) σ):=by
 have hsl:=strs_len h;refine fun_code Tryz.func126 k126 rfl fun hb hw=>?_;unfold c126;simp -dsimp -implicitDefEqProofs only[aw,slots0,V.copy,V.lend,eq_self,reduceIte,reduceCtorEq,Nat.reduceBEq,Nat.reduceLT,Nat.reduceEqDiff,dstrs];refine awp_forK [3,6,7,8] (fun(j:Nat) ρ σ'=>ρ=[(3,.own 9 1 ((l.take j).map fun s=>[dstr s])),(6,.d (.sl (l.map fun s=>[dstr s]))),(7,vint .i64 l.length),(8,vint .i64 j)]∧σ'=σ) l.length ⟨rfl,rfl⟩ ?_ _;rintro j ρ' σ' hj ⟨rfl,rfl⟩;by_cases hlt:j<l.length
 ·have wj:=wrap_nat hlt (show l.length≤9223372036854775807 by omega);simp -dsimp -implicitDefEqProofs only[aw,V.copy,V.lend,Nat.reduceLeDiff,eq_self,reduceIte,Nat.reduceBEq,Nat.reduceLT,Nat.reduceEqDiff,Int.ofNat_lt,hlt,decide_true,List.getElem?_eq_getElem hlt];refine fun_ret (ctvar_fun l[j] (h _ (List.getElem_mem hlt)) _) ?_;simp -dsimp -implicitDefEqProofs only[aw,V.copy,V.cells,rowsOf,plains,V.plain,eq_self,reduceIte,Nat.reduceBEq,Nat.reduceLT,Nat.reduceEqDiff];refine onT_intro (by first|omega|(simp only[List.length_take];omega)) ?_;simp -dsimp -implicitDefEqProofs only[aw,V.copy,V.lend,eq_self,reduceIte,Nat.reduceBEq,Nat.reduceLT,Nat.reduceEqDiff,wj];exact⟨hlt,Nxt.same (Nat.le_refl _) hb (by simp[slotsBelow,V.under]) ⟨by rw[List.take_succ_eq_append_getElem hlt,List.map_append];rfl,rfl⟩⟩
 ·simp -dsimp -implicitDefEqProofs only[aw,V.copy,V.lend,eq_self,reduceIte,Nat.reduceBEq,Nat.reduceLT,Nat.reduceEqDiff,Int.ofNat_lt,hlt,decide_false];rw[List.take_of_length_le (by omega)];have hj:=fun_joins [44,32] l (by omega) (by rw[join_sep];exact Nat.le_trans hsl (by omega));rw[join_sep]at hj;refine fun_ret (hj _) ?_;simp -dsimp -implicitDefEqProofs only[aw,V.copy,eq_self,reduceIte,Nat.reduceBEq,Nat.reduceLT,Nat.reduceEqDiff];first|exact fin_ret hb rfl rfl List.take_length ⟨rfl,rfl⟩|exact fin_ret hb rfl rfl List.take_left ⟨rfl,rfl⟩|(trace_state;fail "fin")
structure WtFit(w:Wt):Prop where
 l0 : -9223372036854775808≤w.lo
 l1:w.lo≤9223372036854775807
 h0 : -9223372036854775808≤w.hi
 h1:w.hi≤9223372036854775807
 w0 : -9223372036854775808≤w.w
 w1:w.w≤9223372036854775807
theorem wtfit_of{w:Wt}(h:wtB w=true):WtFit w:=by
 unfold wtB at h;simp only[Bool.and_eq_true,decide_eq_true_eq]at h;exact⟨by omega,by omega,by omega,by omega,by omega,by omega⟩
theorem wtT_len{w:Wt}(h:WtFit w):(wtT w).length≤68:=by
 have h1:=itoa_l20 h.l0 h.l1;have h2:=itoa_l20 h.h0 h.h1;have h3:=itoa_l20 h.w0 h.w1;unfold wtT numT;split<;>split<;>simp only[List.length_append,List.length_cons,List.length_nil]<;>omega
theorem weight_fun(w:Wt)(h:WtFit w)(σ:List (List V)):Fun G 23 [.agg ((dwt w).map V.d)] σ (RetV (.d (dstr (bs (wtT w)))) σ):=by
 have h1:=itoa_l20 h.l0 h.l1;have h2:=itoa_l20 h.h0 h.h1;have h3:=itoa_l20 h.w0 h.w1;have f1:=fun σ=>numFormatZ_fun w.lo h.l0 h.l1 σ;have f2:=fun σ=>numFormatZ_fun w.hi h.h0 h.h1 σ;have f3:=fun σ=>numFormatZ_fun w.w h.w0 h.w1 σ;refine fun_code Tryz.func23 k23 rfl fun hb hw=>?_;unfold c23 wtT numT;generalize Lib.itoa w.lo=A at *;generalize Lib.itoa w.hi=B at *;generalize Lib.itoa w.w=E at *;have len4:∀(c d:UInt8) (X:Bs),(32::58::c::d::X:Bs).length=X.length+4:=fun c d X=>by simp
 simp -dsimp -implicitDefEqProofs only[aw,slots0,V.copy,V.lend,V.cells,V.boxable,Nat.reduceLeDiff,eq_self,reduceIte,reduceCtorEq,Nat.reduceBEq,Nat.reduceLT,Nat.reduceEqDiff,Nat.reduceAdd,dwt];refine fun_ret (f1 _) ?_;by_cases he:w.hi=w.lo
 ·have u1:binV .add (V.d (dstr (bs A))) (V.d (dstr ⟨#[32,58,61,32]⟩))=_:=add_bs A [32,58,61,32] (by simp;omega);have u2:binV .add (V.d (dstr (bs A))) (V.d (dstr ⟨#[32,58,47,32]⟩))=_:=add_bs A [32,58,47,32] (by simp;omega);have v1:=sum_bs (a:=A++[32,58,61,32]) (b:=E) (c:=A++32::58::61::32::E) (by simp) (by simp;omega);have v2:=sum_bs (a:=A++[32,58,47,32]) (b:=E) (c:=A++32::58::47::32::E) (by simp) (by simp;omega);rw[if_pos he];cases hE:w.each with
  | true=>
   simp -dsimp -implicitDefEqProofs only[aw,V.copy,V.lend,Nat.reduceLeDiff,eq_self,reduceIte,Nat.reduceBEq,Nat.reduceLT,Nat.reduceEqDiff,Nat.reduceAdd,he,decide_true,u1];refine fun_ret (f3 _) ?_;simp -dsimp -implicitDefEqProofs only[aw,V.copy,eq_self,reduceIte,Nat.reduceBEq,Nat.reduceLT,Nat.reduceEqDiff,v1];first|exact fin_ret hb rfl rfl List.take_length ⟨rfl,rfl⟩|exact fin_ret hb rfl rfl List.take_left ⟨rfl,rfl⟩|(trace_state;fail "fin")
  | false=>
   simp -dsimp -implicitDefEqProofs only[aw,V.copy,V.lend,Nat.reduceLeDiff,eq_self,reduceIte,Nat.reduceBEq,Nat.reduceLT,Nat.reduceEqDiff,Nat.reduceAdd,he,decide_true,u2];refine fun_ret (f3 _) ?_;simp -dsimp -implicitDefEqProofs only[aw,V.copy,eq_self,reduceIte,Nat.reduceBEq,Nat.reduceLT,Nat.reduceEqDiff,v2];first|exact fin_ret hb rfl rfl List.take_length ⟨rfl,rfl⟩|exact fin_ret hb rfl rfl List.take_left ⟨rfl,rfl⟩|(trace_state;fail "fin")
 ·have s1:binV .add (V.d (dstr ⟨#[32,46,46,32]⟩)) (V.d (dstr (bs B)))=some (V.d (dstr (bs (32::46::46::32::B)))):=add_bs [32,46,46,32] B (by simp only[List.length_cons,List.length_nil];omega);have s2:=sum_bs (a:=A) (b:=32::46::46::32::B) (c:=A++32::46::46::32::B) rfl (by simp;omega);have u1:binV .add (V.d (dstr (bs (A++32::46::46::32::B)))) (V.d (dstr ⟨#[32,58,61,32]⟩))=_:=sum_bs (b:=[32,58,61,32]) (c:=A++32::46::46::32::(B++[32,58,61,32])) (by simp) (by simp;omega);have u2:binV .add (V.d (dstr (bs (A++32::46::46::32::B)))) (V.d (dstr ⟨#[32,58,47,32]⟩))=_:=sum_bs (b:=[32,58,47,32]) (c:=A++32::46::46::32::(B++[32,58,47,32])) (by simp) (by simp;omega);have v1:=sum_bs (a:=A++32::46::46::32::(B++[32,58,61,32])) (b:=E) (c:=A++32::46::46::32::(B++32::58::61::32::E)) (by simp) (by simp;omega)
  have v2:=sum_bs (a:=A++32::46::46::32::(B++[32,58,47,32])) (b:=E) (c:=A++32::46::46::32::(B++32::58::47::32::E)) (by simp) (by simp;omega);rw[if_neg he];simp -dsimp -implicitDefEqProofs only[aw,V.copy,V.lend,Nat.reduceLeDiff,eq_self,reduceIte,Nat.reduceBEq,Nat.reduceLT,Nat.reduceEqDiff,Nat.reduceAdd,decide_eq_false he];refine fun_ret (f2 _) ?_;cases hE:w.each with
  | true=>
   simp -dsimp -implicitDefEqProofs only[aw,V.copy,V.lend,Nat.reduceLeDiff,eq_self,reduceIte,Nat.reduceBEq,Nat.reduceLT,Nat.reduceEqDiff,Nat.reduceAdd,s1,s2,u1];refine fun_ret (f3 _) ?_;simp -dsimp -implicitDefEqProofs only[aw,V.copy,eq_self,reduceIte,Nat.reduceBEq,Nat.reduceLT,Nat.reduceEqDiff,v1];first|exact fin_ret hb rfl rfl List.take_length ⟨rfl,rfl⟩|exact fin_ret hb rfl rfl List.take_left ⟨rfl,rfl⟩|(trace_state;fail "fin")
  | false=>
   simp -dsimp -implicitDefEqProofs only[aw,V.copy,V.lend,Nat.reduceLeDiff,eq_self,reduceIte,Nat.reduceBEq,Nat.reduceLT,Nat.reduceEqDiff,Nat.reduceAdd,s1,s2,u2];refine fun_ret (f3 _) ?_;simp -dsimp -implicitDefEqProofs only[aw,V.copy,eq_self,reduceIte,Nat.reduceBEq,Nat.reduceLT,Nat.reduceEqDiff,v2];first|exact fin_ret hb rfl rfl List.take_length ⟨rfl,rfl⟩|exact fin_ret hb rfl rfl List.take_left ⟨rfl,rfl⟩|(trace_state;fail "fin")
theorem ctWeights_fun(l:List Wt)(h:∀w,w∈l→WtFit w)(hl:l.length≤1200000)(σ:List (List V)):Fun G 10 [.d (.sl (l.map dwt))] σ (RetV (.d (dstr (bs (wtsT l)))) σ):=by
 have hsl:=sep_len [44,32] 68 (l.map wtT) fun a ha=>by
  obtain⟨w,hw,rfl⟩:=List.mem_map.1 ha;exact wtT_len (h w hw)
 rw[List.length_map]at hsl;refine fun_code Tryz.func10 k10 rfl fun hb hw=>?_;unfold c10 wtsT;simp -dsimp -implicitDefEqProofs only[aw,slots0,V.copy,V.lend,eq_self,reduceIte,reduceCtorEq,Nat.reduceBEq,Nat.reduceLT,Nat.reduceEqDiff];refine awp_forK [3,6,7,8] (fun(j:Nat) ρ σ'=>ρ=[(3,.own 9 1 (((l.take j).map fun w=>bs (wtT w)).map fun s=>[dstr s])),(6,.d (.sl (l.map dwt))),(7,vint .i64 l.length),(8,vint .i64 j)]∧σ'=σ) l.length ⟨rfl,rfl⟩ ?_ _;rintro j ρ' σ' hj ⟨rfl,rfl⟩;by_cases hlt:j<l.length
 ·have wj:=wrap_nat hlt (show l.length≤9223372036854775807 by omega);have hwf:=weight_fun l[j] (h _ (List.getElem_mem hlt));simp only[dwt,List.map_cons,List.map_nil]at hwf;have hdl:(dwt l[j])=[dint l[j].lo,dint l[j].hi,dint l[j].w,.lit (.bool l[j].each)]:=rfl;simp -dsimp -implicitDefEqProofs only[aw,V.copy,V.lend,V.lend1,V.cells,V.boxable,over,Nat.reduceLeDiff,eq_self,reduceIte,Nat.reduceBEq,Nat.reduceLT,Nat.reduceEqDiff,Nat.reduceAdd,Int.ofNat_lt,hlt,decide_true,List.getElem?_eq_getElem hlt,hdl];refine fun_ret (hwf _) ?_;simp -dsimp -implicitDefEqProofs only[aw,V.copy,V.cells,rowsOf,plains,V.plain,eq_self,reduceIte,Nat.reduceBEq,Nat.reduceLT,Nat.reduceEqDiff];refine onT_intro (by first|omega|(simp only[List.length_take];omega)) ?_;simp -dsimp -implicitDefEqProofs only[aw,V.copy,V.lend,eq_self,reduceIte,Nat.reduceBEq,Nat.reduceLT,Nat.reduceEqDiff,wj]
  exact⟨hlt,Nxt.drop (l:=[_]) (Nat.le_refl _) hb (by simp[slotsBelow,V.under]) ⟨by rw[List.take_succ_eq_append_getElem hlt,List.map_append,List.map_append];rfl,rfl⟩⟩
 ·simp -dsimp -implicitDefEqProofs only[aw,V.copy,V.lend,eq_self,reduceIte,Nat.reduceBEq,Nat.reduceLT,Nat.reduceEqDiff,Int.ofNat_lt,hlt,decide_false];rw[List.take_of_length_le (by omega)]
  have hm:(l.map fun w=>bs (wtT w)).map (·.data.toList)=l.map wtT:=by
   rw[List.map_map];exact List.map_congr_left fun w _=>bs_list _
  have hj:=fun_joins [44,32] (l.map fun w=>bs (wtT w)) (by rw[List.length_map];omega) (by rw[join_sep,hm];exact Nat.le_trans hsl (by simp only[List.length_cons,List.length_nil];omega));rw[join_sep,hm]at hj;simp only[dstrs]at hj;refine fun_ret (hj _) ?_;simp -dsimp -implicitDefEqProofs only[aw,V.copy,eq_self,reduceIte,Nat.reduceBEq,Nat.reduceLT,Nat.reduceEqDiff];first|exact fin_ret hb rfl rfl List.take_length ⟨rfl,rfl⟩|exact fin_ret hb rfl rfl List.take_left ⟨rfl,rfl⟩|(trace_state;fail "fin")
theorem ctmode_fun(m:Int)(σ:List (List V)):Fun G 48 [.d (dint m)] σ (RetV (.d (dstr (bs (modeT m)))) σ):=by
 refine fun_code Tryz.func48 k48 rfl fun hb hw=>?_;unfold c48 modeT;by_cases h1:m=1
 ·rw[if_pos h1];simp -dsimp -implicitDefEqProofs only[aw,slots0,V.copy,eq_self,reduceIte,reduceCtorEq,Nat.reduceBEq,Nat.reduceLT,Nat.reduceEqDiff,h1,decide_true];first|exact fin_ret hb rfl rfl List.take_length ⟨rfl,rfl⟩|exact fin_ret hb rfl rfl List.take_left ⟨rfl,rfl⟩|(trace_state;fail "fin")
 ·rw[if_neg h1];by_cases h2:m=2
  ·rw[if_pos h2];simp -dsimp -implicitDefEqProofs only[aw,slots0,V.copy,eq_self,reduceIte,reduceCtorEq,Nat.reduceBEq,Nat.reduceLT,Nat.reduceEqDiff,h2,Int.reduceEq,decide_true,decide_false];first|exact fin_ret hb rfl rfl List.take_length ⟨rfl,rfl⟩|exact fin_ret hb rfl rfl List.take_left ⟨rfl,rfl⟩|(trace_state;fail "fin")
  ·rw[if_neg h2];simp -dsimp -implicitDefEqProofs only[aw,slots0,V.copy,eq_self,reduceIte,reduceCtorEq,Nat.reduceBEq,Nat.reduceLT,Nat.reduceEqDiff,decide_eq_false h1,decide_eq_false h2];first|exact fin_ret hb rfl rfl List.take_length ⟨rfl,rfl⟩|exact fin_ret hb rfl rfl List.take_left ⟨rfl,rfl⟩|(trace_state;fail "fin")
end Go.Proofs.YtcbahpllcfbkmaaGreatDoor
