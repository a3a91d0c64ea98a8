import Derived.Test.YtcbahpllcfbkmaaGreatDoorCt2
import Derived.Test.YtcbahpllcfbkmaaGreatDoorClo
import Derived.Test.YtcbahpllcfbkmaaGreatDoorBl2
import Derived.Test.YtcbahpllcfbkmaaGreatDoorEt3
import Derived.Test.YtcbahpllcfbkmaaGreatDoorCt6
import Derived.Test.YtcbahpllcfbkmaaGreatDoorK5
set_option linter.unusedVariables false
set_option linter.unusedSimpArgs false
set_option linter.unusedSectionVars false
namespace Go.Proofs.YtcbahpllcfbkmaaGreatDoor
open Go.RowKit
structure Fl where
 name:ByteArray
 width:Int
 size:Int
 mode:Int
 init:Int
structure Kl where
 name:ByteArray
 par:ByteArray
 flds:List Fl
 blks:List (ByteArray×List It)
def modeT(m:Int):Bs:=if m=1 then[114,97,110,100,32]else if m=2 then[114,97,110,100,99,32]else[115,116,97,116,101,32]
def fldT(f:Fl):Bs:=modeT f.mode++(strT f.name++((if 0<f.size then 91::(numT f.size++[93])else[])++([32,58,32]++(numT f.width++((if f.mode=0 then[32,61,32]++numT f.init else[])++[59])))))
def blkL(b:ByteArray×List It):List Ln:=(0,[99,111,110,115,116,114,97,105,110,116,32]++(strT b.1++[32,123]))::(upL (lns b.2)++[(0,[125])])
def parT(p:ByteArray):Bs:=if p=⟨#[]⟩then[]else[32,101,120,116,101,110,100,115,32]++strT p
def clsL(c:Kl):List Ln:=(0,[99,108,97,115,115,32]++(strT c.name++(parT c.par++[32,123])))::(upL (c.flds.map (fun f=>(0,fldT f))++c.blks.flatMap blkL)++[(0,[125])])
def clsT(c:Kl):Bs:=lnsT 0 (clsL c)
structure FlOk(f:Fl):Prop where
 nm:nameB f.name=true
 wd:0≤f.width
 sz:0≤f.size
 md:f.mode=0∨f.mode=1∨f.mode=2
 i0:0≤f.init
 i1:f.mode≠0→f.init=0
structure KlOk(c:Kl):Prop where
 nm:nameB c.name=true
 par:c.par=⟨#[]⟩∨nameB c.par=true
 fl:∀f,f∈c.flds→FlOk f
 bn:∀b,b∈c.blks→nameB b.1=true
 bi:∀b,b∈c.blks→rvl b.2 0=0
theorem fld_ok{f:Fl}(h:FlOk f):LnOk (fldT f):=by
 have hn:prS (strT f.name)=true:=pr_name h.nm
 have hp:prS (fldT f)=true:=by
  unfold fldT;rw[prS_app,prS_app,hn,prS_app,prS_app,prS_app,pr_num,prS_app];have e1:prS (modeT f.mode)=true:=by unfold modeT;split<;>(try split)<;>rfl
  have e2:prS (if 0<f.size then 91::(numT f.size++[93])else[])=true:=by
   split
   ·rw[prS_cons,prS_app,pr_num];rfl
   ·rfl
  have e3:prS (if f.mode=0 then[32,61,32]++numT f.init else[])=true:=by
   split
   ·rw[prS_app,pr_num];rfl
   ·rfl
  rw[e1,e2,e3];rfl
 have hl:fldT f=(modeT f.mode++(strT f.name++((if 0<f.size then 91::(numT f.size++[93])else[])++([32,58,32]++(numT f.width++(if f.mode=0 then[32,61,32]++numT f.init else[]))))))++[59]:=by unfold fldT;simp
 have hd:∃c r,fldT f=c::r∧c≠32:=by
  unfold fldT modeT;split
  ·exact⟨114,_,rfl,by decide⟩
  ·split
   ·exact⟨114,_,rfl,by decide⟩
   ·exact⟨115,_,rfl,by decide⟩
 exact⟨hp,hd,⟨59,_,hl,by decide⟩⟩
theorem brace_ok:LnOk [125]:=⟨rfl,⟨125,[],rfl,by decide⟩,⟨125,[],rfl,by decide⟩⟩
theorem blkL_ok{b:ByteArray×List It}(hn:nameB b.1=true)(hv:rvl b.2 0=0):∀y,y∈blkL b→LnOk y.2:=by
 intro y hy;have e1:prS (strT b.1)=true:=pr_name hn;rcases List.mem_cons.1 hy with rfl|hy
 ·exact ln_mk (d:=123) (r':=[99,111,110,115,116,114,97,105,110,116,32]++(strT b.1++[32])) (by
   show prS ([99,111,110,115,116,114,97,105,110,116,32]++(strT b.1++[32,123]))=true;rw[prS_app,prS_app,e1];rfl) (c:=99) rfl (by decide) (by simp) (by decide)
 ·rcases List.mem_append.1 hy with hy|hy
  ·exact up_mem (lns_ok b.2 0 hv) y hy
  ·rw[List.mem_singleton.1 hy];exact brace_ok
theorem pr_par{p:ByteArray}(h:p=⟨#[]⟩∨nameB p=true):prS (parT p)=true:=by
 unfold parT;split
 ·rfl
 ·rename_i hn;have e1:prS (strT p)=true:=pr_name (h.resolve_left hn);rw[prS_app,e1];rfl
theorem clsL_ok{c:Kl}(h:KlOk c):∀y,y∈clsL c→LnOk y.2:=by
 intro y hy;have e1:prS (strT c.name)=true:=pr_name h.nm;rcases List.mem_cons.1 hy with rfl|hy
 ·exact ln_mk (d:=123) (r':=[99,108,97,115,115,32]++(strT c.name++(parT c.par++[32]))) (by
   show prS ([99,108,97,115,115,32]++(strT c.name++(parT c.par++[32,123])))=true;rw[prS_app,prS_app,e1,prS_app,pr_par h.par];rfl) (c:=99) rfl (by decide) (by simp) (by decide)
 ·rcases List.mem_append.1 hy with hy|hy
  ·refine up_mem (fun z hz=>?_) y hy;rcases List.mem_append.1 hz with hz|hz
   ·obtain⟨f,hf,rfl⟩:=List.mem_map.1 hz;exact fld_ok (h.fl f hf)
   ·obtain⟨b,hb,hz⟩:=List.mem_flatMap.1 hz;exact blkL_ok (h.bn b hb) (h.bi b hb) z hz
  ·rw[List.mem_singleton.1 hy];exact brace_ok
theorem clsT_ne(c:Kl):clsT c≠[]:=by
 unfold clsT clsL;show lnT 0 _++_≠[];unfold lnT blk;simp
theorem fun_to{C:Cx}{f:FuncId}{args:List V}{σ σ1:List (List V)}{v:V}{K P:V→List (List V)→Prop}{s:Tag K}{t:Tag P}(h:Fun C f args σ (fun o σ'=>o=.ret v∧σ'=σ1))(hk:K v σ1):FunT C f args σ K P s t:=
 h.mono fun o σ' ⟨e1,e2⟩=>by subst e1;subst e2;exact hk
theorem fin_en{n0 k:Nat}{σ' τ:List (List V)}{ρ:Slots}{rs:List RV}{Q:Out→List (List V)→Prop}(hk:n0≤k)(ht:σ'.take k=τ)(hb:boxesBelow k τ=true){v:V}(h:resV σ' ρ rs=some v)(hv:V.under k v=true)(hq:Q (.ret v) τ):fin n0 rs Q .normal ρ σ':=
 ⟨ρ,σ',.refl _ _ _,v,h,k,hk,by rw[ht];exact hb,hv,by rw[ht];exact hq⟩
theorem bbset{σ:List (List V)}{k i:Nat}{cs:List V}(h:boxesBelow k σ=true)(hc:V.unders k cs=true):boxesBelow k (σ.set i cs)=true:=by
 unfold boxesBelow at h ⊢;rw[List.all_eq_true]at h ⊢;intro x hx;rcases List.mem_or_eq_of_mem_set hx with hx|rfl
 ·exact h x hx
 ·exact hc
theorem pg_under{i k n:Nat}{t:Option Bs}(h:i<n):V.unders n (pgc i t k)=true:=by
 cases t with
 | none=>rfl
 | some t=>simp[pgc,pgu,V.unders,V.under,h]
theorem ld_page(i:Nat)(t:Option Bs)(k:Int):(if 3≤(pgc i t k).length∧noMap (pgc i t k)=true then packV false (List.take 1 (List.drop 2 (pgc i t k)))else(tyL 1 2 (pgc i t k)).bind (packV false))=some (.d (dint k)):=by
 cases t with
 | none=>rw[if_neg (fun h=>by have:=h.1;simp[pgc,tyc]at this)];rfl
 | some t=>rw[if_pos ⟨by simp[pgc,pgu],rfl⟩];rfl
theorem blk_rep:∀k,Lib.repeatL [32,32,32,32] k=blk k
 | 0=>rfl
 | k+1=>by
  rw[Lib.repeatL,blk_rep k,blk_up]
theorem blk_len(k:Nat):(blk k).length=4*k:=List.length_replicate
theorem repeat_fun(k:Nat)(hk:k≤1000)(σ:List (List V)):Fun G 47 [.d (dstr ⟨#[32,32,32,32]⟩),.d (dint k)] σ (RetV (.d (dstr (bs (blk k)))) σ):=
 fun_lit2 Tryz.func47 (by kernel_rfl) (by kernel_rfl) (by show(bs (blk k)).size≤maxLen;rw[bs_size,blk_len];unfold maxLen;omega) fun pr w _=>
  (Tryz.strings_Repeat ⟨#[32,32,32,32]⟩ k w (by omega) (by show 4*k≤_;omega)).mono fun e w' ⟨he,hb⟩=>⟨by rw[he];show _=Ending.returned (.string (bs (blk k)));rw[←blk_rep k];rfl,hb⟩
theorem ws_bs(i:Nat)(t:Option Bs)(k:Int)(l:Bs)(hl:(t.getD []).length+l.length≤140737488355328)(σ:List (List V))(hs:σ[i]? = some (pgc i t k)):
 Fun G 44 [.ptr i 0,.d (dstr (bs l))] σ (fun o σ'=>o=.ret (.tup [.d (dint l.length),.d (.lit .nilIface)])∧σ'=σ.set i (pgc i (some (t.getD []++l)) k)):=by
 have h:=ws_fun i t k (bs l) (by rw[bs_size];exact hl) σ hs;rw[bs_list,bs_size]at h;exact h
set_option maxHeartbeats 4000000 in
theorem line_fun(i:Nat)(t:Option Bs)(k:Nat)(ps:List ByteArray)(hk:k≤1000)(hl:(t.getD []).length+4*k+(ps.flatMap strT).length+1≤140737488355328)(hp:ps.length≤1000)(σ:List (List V))(hs:σ[i]? = some (pgc i t k)):
 Fun G 28 [.ptr i 0,.d (dstrs ps)] σ (fun o σ'=>o=.ret (.tup [])∧σ'=σ.set i (pgc i (some (t.getD []++(blk k++(ps.flatMap strT++[10])))) k)):=by
 refine fun_code Tryz.func28 k28 rfl fun hb hw=>?_;have hi:i<σ.length:=(List.getElem?_eq_some_iff.1 hs).1;have h1:∀X:List V,(σ.set i X)[i]? = some X:=fun X=>List.getElem?_set_self hi;have h2:∀X Y:List V,(σ.set i X).set i Y=σ.set i Y:=fun X Y=>List.set_set X
 have bbt:∀t:Bs,boxesBelow (σ.set i (pgc i (some t) k)).length (σ.set i (pgc i (some t) k))=true:=fun t=>by
  rw[List.length_set];exact bbset hb (pg_under hi)
 have hbk:=blk_len k;unfold c28;simp -dsimp -implicitDefEqProofs only[aw,slots0,V.copy,V.lend,V.lend1,V.cells,V.boxable,over,bldV,boundV,rowsOf,plains,V.plain,Nat.reduceLeDiff,cond_true,cond_false,implies_true,eq_self,ne_eq,reduceIte,reduceCtorEq,Nat.reduceBEq,Nat.reduceLT,Nat.reduceEqDiff,Nat.reduceAdd,Nat.reduceSub,Nat.reduceMul,hs,ld_page];refine calm_ret (repeat_fun k hk _) ?_;simp -dsimp -implicitDefEqProofs only[aw,slots0,V.copy,V.lend,V.lend1,V.cells,V.boxable,over,bldV,boundV,rowsOf,plains,V.plain,Nat.reduceLeDiff,cond_true,cond_false,implies_true,eq_self,ne_eq,reduceIte,reduceCtorEq,Nat.reduceBEq,Nat.reduceLT,Nat.reduceEqDiff,Nat.reduceAdd,Nat.reduceSub,Nat.reduceMul];refine actG_ret (ws_bs i t k (blk k) (by omega) _ hs) ?_ ?_
 ·simp -dsimp -implicitDefEqProofs only[aw,slots0,V.copy,V.lend,V.lend1,V.cells,V.boxable,over,bldV,boundV,rowsOf,plains,V.plain,Nat.reduceLeDiff,cond_true,cond_false,implies_true,eq_self,ne_eq,reduceIte,reduceCtorEq,Nat.reduceBEq,Nat.reduceLT,Nat.reduceEqDiff,Nat.reduceAdd,Nat.reduceSub,Nat.reduceMul]
 simp -dsimp -implicitDefEqProofs only[aw,slots0,V.copy,V.lend,V.lend1,V.cells,V.boxable,over,bldV,boundV,rowsOf,plains,V.plain,Nat.reduceLeDiff,cond_true,cond_false,implies_true,eq_self,ne_eq,reduceIte,reduceCtorEq,Nat.reduceBEq,Nat.reduceLT,Nat.reduceEqDiff,Nat.reduceAdd,Nat.reduceSub,Nat.reduceMul,dstrs,List.length_map];refine awp_forK [0,15,16,17] (fun(j:Nat) ρ σ'=>ρ=[(0,.ptr i 0),(15,.d (.sl (ps.map fun s=>[dstr s]))),(16,vint .i64 ps.length),(17,vint .i64 j)]∧σ'=σ.set i (pgc i (some (t.getD []++blk k++(ps.take j).flatMap strT)) k)) ps.length ⟨rfl,by simp⟩ ?_ _;rintro j ρ' σ' hj ⟨rfl,rfl⟩
 have hlen:∀j,((ps.take j).flatMap strT).length≤(ps.flatMap strT).length:=fun j=>by
  have:=congrArg List.length (List.flatMap_append (f:=strT) (xs:=ps.take j) (ys:=ps.drop j));rw[List.take_append_drop,List.length_append]at this;omega
 by_cases hlt:j<ps.length
 ·have wj:=wrap_nat hlt (show ps.length≤9223372036854775807 by omega);have hn:(ps.take (j+1)).flatMap strT=(ps.take j).flatMap strT++strT ps[j]:=by rw[List.take_succ_eq_append_getElem hlt,List.flatMap_append];simp
  have hlj:=hlen (j+1);rw[hn,List.length_append]at hlj;simp -dsimp -implicitDefEqProofs only[aw,slots0,V.copy,V.lend,V.lend1,V.cells,V.boxable,over,bldV,boundV,rowsOf,plains,V.plain,Nat.reduceLeDiff,cond_true,cond_false,implies_true,eq_self,ne_eq,reduceIte,reduceCtorEq,Nat.reduceBEq,Nat.reduceLT,Nat.reduceEqDiff,Nat.reduceAdd,Nat.reduceSub,Nat.reduceMul,Int.ofNat_lt,hlt,decide_true,List.getElem?_eq_getElem hlt];refine fun_to (ws_fun i _ k ps[j] (by simp only[Option.getD_some,List.length_append];have:ps[j].size=(strT ps[j]).length:=rfl;omega) _ (h1 _)) ?_;simp -dsimp -implicitDefEqProofs only[aw,slots0,V.copy,V.lend,V.lend1,V.cells,V.boxable,over,bldV,boundV,rowsOf,plains,V.plain,Nat.reduceLeDiff,cond_true,cond_false,implies_true,eq_self,ne_eq,reduceIte,reduceCtorEq,Nat.reduceBEq,Nat.reduceLT,Nat.reduceEqDiff,Nat.reduceAdd,Nat.reduceSub,Nat.reduceMul,wj,h2]
  exact⟨hlt,Nxt.same (by simp) (bbt _) (by simp[slotsBelow,V.under];exact hi) ⟨rfl,by rw[hn];simp[strT,List.append_assoc]⟩⟩
 ·have hj':j=ps.length:=by omega
  subst hj';simp -dsimp -implicitDefEqProofs only[aw,slots0,V.copy,V.lend,V.lend1,V.cells,V.boxable,over,bldV,boundV,rowsOf,plains,V.plain,Nat.reduceLeDiff,cond_true,cond_false,implies_true,eq_self,ne_eq,reduceIte,reduceCtorEq,Nat.reduceBEq,Nat.reduceLT,Nat.reduceEqDiff,Nat.reduceAdd,Nat.reduceSub,Nat.reduceMul,Int.ofNat_lt,hlt,decide_false];refine fun_to (ws_bs i _ k [10] (by simp only[Option.getD_some,List.length_append,List.take_length,List.length_cons,List.length_nil];omega) _ (h1 _)) ?_;simp -dsimp -implicitDefEqProofs only[aw,slots0,V.copy,V.lend,V.lend1,V.cells,V.boxable,over,bldV,boundV,rowsOf,plains,V.plain,Nat.reduceLeDiff,cond_true,cond_false,implies_true,eq_self,ne_eq,reduceIte,reduceCtorEq,Nat.reduceBEq,Nat.reduceLT,Nat.reduceEqDiff,Nat.reduceAdd,Nat.reduceSub,Nat.reduceMul,h2]
  refine fin_en (v:=.tup []) (k:=σ.length) (τ:=σ.set i (pgc i (some (t.getD []++blk k++(ps.take ps.length).flatMap strT++[10])) k)) (Nat.le_refl _) ?_ (bbset hb (pg_under hi)) rfl rfl ⟨rfl,?_⟩
  ·rw[List.take_of_length_le (by simp)];simp[List.append_assoc]
  ·first|rfl|(rw[List.take_length,List.append_assoc,List.append_assoc,List.append_assoc])|simp[List.append_assoc]
end Go.Proofs.YtcbahpllcfbkmaaGreatDoor
