import Derived.Test.YtcbahpllcfbkmaaGreatDoorIw1
import Derived.Test.YtcbahpllcfbkmaaGreatDoorCw2
import Derived.Test.YtcbahpllcfbkmaaGreatDoorK5
set_option linter.unusedVariables false
set_option linter.unusedSimpArgs false
set_option linter.unusedSectionVars false
namespace Go.Proofs.YtcbahpllcfbkmaaGreatDoor
open Go.RowKit
def dfl(f:Fl):List D:=[dstr f.name,dint f.width,dint f.size,dint f.mode,dint f.init]
abbrev Bk:=ByteArray×List It
def dbk(b:Bk):List D:=[dstr b.1,ditl b.2]
abbrev vkl(c:Kl):V:=.agg [.d (dstr c.name),.d (dstr c.par),.d (.sl (c.flds.map dfl)),.d (.sl (c.blks.map dbk))]
def fldE(f:Fl):Int:=
 if nameB f.name=false then 7 else if f.width<1∨8<f.width∨f.size<0∨8<f.size then 1 else if f.mode≠0∧f.mode≠1∧f.mode≠2 then 1 else if f.size≠0∧f.mode=2 then 1
 else if f.init<0∨(if f.mode=0 then 2^f.width.toNat-1 else 0)<f.init then 1 else 0
def fldsE:List Fl→Int
 | []=>0
 | f::r=>if fldE f≠0 then fldE f else fldsE r
def idxB:List Bk→Int→Int
 | [],_=>-1
 | b::r,k=>if nameB b.1=false then k else idxB r (k+1)
def klsE(c:Kl):Int:=
 if nameB c.name=false∨(c.par≠⟨#[]⟩∧nameB c.par=false)then 7 else if 16<c.flds.length∨16<c.blks.length then 2 else if fldsE c.flds≠0 then fldsE c.flds
 else if 0≤idxB c.blks 0 then 7 else if ¬(c.flds.map Fl.name).Nodup∨¬(c.blks.map Prod.fst).Nodup then 8 else 0
theorem shl_one{n:Int}(h0:1≤n)(h1:n≤8):binV .shl (.d (.lit (.int .i64 1))) (.d (dint n))=some (.d (dint (2^n.toNat)))∧(2:Int)^n.toNat≤256∧(1:Int)≤2^n.toNat:=by
 have hn:n=1∨n=2∨n=3∨n=4∨n=5∨n=6∨n=7∨n=8:=by omega
 rcases hn with rfl|rfl|rfl|rfl|rfl|rfl|rfl|rfl<;>exact⟨by rw[v_shl];rfl,by decide,by decide⟩
set_option maxHeartbeats 4000000 in
theorem vfield_fun(f:Fl)(σ:List (List V)):Fun G 66 [.agg ((dfl f).map V.d)] σ (RetV (.d (dint (fldE f))) σ):=by
 refine fun_code Tryz.func66 k66 rfl fun hb hw=>?_;unfold c66 fldE;obtain⟨nm,wd,sz,md,ini⟩:=f;simp only;simp -dsimp -implicitDefEqProofs only[aw,slots0,V.copy,V.lend,V.cells,V.boxable,Nat.reduceLeDiff,eq_self,ne_eq,reduceIte,reduceCtorEq,Nat.reduceBEq,Nat.reduceLT,Nat.reduceEqDiff,Nat.reduceAdd,dfl];refine fun_ret (fun_lname nm _) ?_;cases hn:nameB nm with
 | false=>
  rw[if_pos rfl];simp -dsimp -implicitDefEqProofs only[aw,V.copy,eq_self,reduceIte,Nat.reduceBEq,Nat.reduceLT,Nat.reduceEqDiff];first|exact fin_ret hb rfl rfl List.take_length ⟨rfl,rfl⟩|exact fin_ret hb rfl rfl List.take_left ⟨rfl,rfl⟩|(trace_state;fail "fin")
 | true=>
 rw[if_neg (show ¬(true=false)by simp)];by_cases a1:wd<1
 ·rw[if_pos (.inl a1)];simp -dsimp -implicitDefEqProofs only[aw,V.copy,Nat.reduceLeDiff,eq_self,reduceIte,Nat.reduceBEq,Nat.reduceLT,Nat.reduceEqDiff,Nat.reduceAdd,decide_eq_true a1];first|exact fin_ret hb rfl rfl List.take_length ⟨rfl,rfl⟩|exact fin_ret hb rfl rfl List.take_left ⟨rfl,rfl⟩|(trace_state;fail "fin")
 by_cases a2:8<wd
 ·rw[if_pos (.inr (.inl a2))];simp -dsimp -implicitDefEqProofs only[aw,V.copy,Nat.reduceLeDiff,cond_false,eq_self,reduceIte,Nat.reduceBEq,Nat.reduceLT,Nat.reduceEqDiff,Nat.reduceAdd,decide_eq_false a1,decide_eq_true a2];first|exact fin_ret hb rfl rfl List.take_length ⟨rfl,rfl⟩|exact fin_ret hb rfl rfl List.take_left ⟨rfl,rfl⟩|(trace_state;fail "fin")
 by_cases a3:sz<0
 ·rw[if_pos (.inr (.inr (.inl a3)))];simp -dsimp -implicitDefEqProofs only[aw,V.copy,Nat.reduceLeDiff,cond_false,eq_self,reduceIte,Nat.reduceBEq,Nat.reduceLT,Nat.reduceEqDiff,Nat.reduceAdd,decide_eq_false a1,decide_eq_false a2,decide_eq_true a3];first|exact fin_ret hb rfl rfl List.take_length ⟨rfl,rfl⟩|exact fin_ret hb rfl rfl List.take_left ⟨rfl,rfl⟩|(trace_state;fail "fin")
 by_cases a4:8<sz
 ·rw[if_pos (.inr (.inr (.inr a4)))];simp -dsimp -implicitDefEqProofs only[aw,V.copy,Nat.reduceLeDiff,cond_false,eq_self,reduceIte,Nat.reduceBEq,Nat.reduceLT,Nat.reduceEqDiff,Nat.reduceAdd,decide_eq_false a1,decide_eq_false a2,decide_eq_false a3,decide_eq_true a4];first|exact fin_ret hb rfl rfl List.take_length ⟨rfl,rfl⟩|exact fin_ret hb rfl rfl List.take_left ⟨rfl,rfl⟩|(trace_state;fail "fin")
 rw[if_neg (by omega)];obtain⟨q1,q2,q3⟩:=shl_one (n:=wd) (by omega) (by omega);have q4:IntKind.i64.wrap ((2:Int)^wd.toNat-1)=2^wd.toNat-1:=wrap_i64 (by omega) (by omega);generalize (2:Int)^wd.toNat=top at *;by_cases m0:md=0
 ·subst m0;rw[if_neg (show ¬((0:Int)≠0∧(0:Int)≠1∧(0:Int)≠2)by omega),if_neg (show ¬(sz≠0∧(0:Int)=2)by omega),if_pos (rfl:(0:Int)=0)];by_cases i1:ini<0
  ·rw[if_pos (.inl i1)];cases hz:decide (sz=0)
   all_goals
    simp -dsimp -implicitDefEqProofs only[aw,V.copy,Nat.reduceLeDiff,cond_true,cond_false,eq_self,reduceIte,Nat.reduceBEq,Nat.reduceLT,Nat.reduceEqDiff,Nat.reduceAdd,decide_eq_false a1,decide_eq_false a2,decide_eq_false a3,decide_eq_false a4,decide_true,decide_false,Int.reduceEq,hz,q1,q4,decide_eq_true i1];first|exact fin_ret hb rfl rfl List.take_length ⟨rfl,rfl⟩|exact fin_ret hb rfl rfl List.take_left ⟨rfl,rfl⟩|(trace_state;fail "fin")
  ·by_cases i2:top-1<ini
   ·rw[if_pos (.inr i2)];cases hz:decide (sz=0)
    all_goals
     simp -dsimp -implicitDefEqProofs only[aw,V.copy,Nat.reduceLeDiff,cond_true,cond_false,eq_self,reduceIte,Nat.reduceBEq,Nat.reduceLT,Nat.reduceEqDiff,Nat.reduceAdd,decide_eq_false a1,decide_eq_false a2,decide_eq_false a3,decide_eq_false a4,decide_true,decide_false,Int.reduceEq,hz,q1,q4,decide_eq_false i1,decide_eq_true i2];first|exact fin_ret hb rfl rfl List.take_length ⟨rfl,rfl⟩|exact fin_ret hb rfl rfl List.take_left ⟨rfl,rfl⟩|(trace_state;fail "fin")
   ·rw[if_neg (by omega)];cases hz:decide (sz=0)
    all_goals
     simp -dsimp -implicitDefEqProofs only[aw,V.copy,Nat.reduceLeDiff,cond_true,cond_false,eq_self,reduceIte,Nat.reduceBEq,Nat.reduceLT,Nat.reduceEqDiff,Nat.reduceAdd,decide_eq_false a1,decide_eq_false a2,decide_eq_false a3,decide_eq_false a4,decide_true,decide_false,Int.reduceEq,hz,q1,q4,decide_eq_false i1,decide_eq_false i2];first|exact fin_ret hb rfl rfl List.take_length ⟨rfl,rfl⟩|exact fin_ret hb rfl rfl List.take_left ⟨rfl,rfl⟩|(trace_state;fail "fin")
 ·by_cases m1:md=1
  ·subst m1;rw[if_neg (show ¬((1:Int)≠0∧(1:Int)≠1∧(1:Int)≠2)by omega),if_neg (show ¬(sz≠0∧(1:Int)=2)by omega),if_neg (show ¬(1:Int)=0 by omega)];by_cases i1:ini<0
   ·rw[if_pos (.inl i1)];cases hz:decide (sz=0)
    all_goals
     simp -dsimp -implicitDefEqProofs only[aw,V.copy,Nat.reduceLeDiff,cond_true,cond_false,eq_self,reduceIte,Nat.reduceBEq,Nat.reduceLT,Nat.reduceEqDiff,Nat.reduceAdd,decide_eq_false a1,decide_eq_false a2,decide_eq_false a3,decide_eq_false a4,decide_true,decide_false,Int.reduceEq,hz,decide_eq_true i1];first|exact fin_ret hb rfl rfl List.take_length ⟨rfl,rfl⟩|exact fin_ret hb rfl rfl List.take_left ⟨rfl,rfl⟩|(trace_state;fail "fin")
   ·by_cases i2:0<ini
    ·rw[if_pos (.inr i2)];cases hz:decide (sz=0)
     all_goals
      simp -dsimp -implicitDefEqProofs only[aw,V.copy,Nat.reduceLeDiff,cond_true,cond_false,eq_self,reduceIte,Nat.reduceBEq,Nat.reduceLT,Nat.reduceEqDiff,Nat.reduceAdd,decide_eq_false a1,decide_eq_false a2,decide_eq_false a3,decide_eq_false a4,decide_true,decide_false,Int.reduceEq,hz,decide_eq_false i1,decide_eq_true i2];first|exact fin_ret hb rfl rfl List.take_length ⟨rfl,rfl⟩|exact fin_ret hb rfl rfl List.take_left ⟨rfl,rfl⟩|(trace_state;fail "fin")
    ·rw[if_neg (by omega)];cases hz:decide (sz=0)
     all_goals
      simp -dsimp -implicitDefEqProofs only[aw,V.copy,Nat.reduceLeDiff,cond_true,cond_false,eq_self,reduceIte,Nat.reduceBEq,Nat.reduceLT,Nat.reduceEqDiff,Nat.reduceAdd,decide_eq_false a1,decide_eq_false a2,decide_eq_false a3,decide_eq_false a4,decide_true,decide_false,Int.reduceEq,hz,decide_eq_false i1,decide_eq_false i2];first|exact fin_ret hb rfl rfl List.take_length ⟨rfl,rfl⟩|exact fin_ret hb rfl rfl List.take_left ⟨rfl,rfl⟩|(trace_state;fail "fin")
  ·by_cases m2:md=2
   ·subst m2;rw[if_neg (show ¬((2:Int)≠0∧(2:Int)≠1∧(2:Int)≠2)by omega)];by_cases z:sz=0
    ·rw[if_neg (show ¬(sz≠0∧(2:Int)=2)by omega),if_neg (show ¬(2:Int)=0 by omega)];by_cases i1:ini<0
     ·rw[if_pos (.inl i1)];simp -dsimp -implicitDefEqProofs only[aw,V.copy,Nat.reduceLeDiff,cond_true,cond_false,eq_self,reduceIte,Nat.reduceBEq,Nat.reduceLT,Nat.reduceEqDiff,Nat.reduceAdd,decide_eq_false a1,decide_eq_false a2,decide_eq_false a3,decide_eq_false a4,decide_true,decide_false,Int.reduceEq,decide_eq_true z,decide_eq_true i1];first|exact fin_ret hb rfl rfl List.take_length ⟨rfl,rfl⟩|exact fin_ret hb rfl rfl List.take_left ⟨rfl,rfl⟩|(trace_state;fail "fin")
     ·by_cases i2:0<ini
      ·rw[if_pos (.inr i2)];simp -dsimp -implicitDefEqProofs only[aw,V.copy,Nat.reduceLeDiff,cond_true,cond_false,eq_self,reduceIte,Nat.reduceBEq,Nat.reduceLT,Nat.reduceEqDiff,Nat.reduceAdd,decide_eq_false a1,decide_eq_false a2,decide_eq_false a3,decide_eq_false a4,decide_true,decide_false,Int.reduceEq,decide_eq_true z,decide_eq_false i1,decide_eq_true i2];first|exact fin_ret hb rfl rfl List.take_length ⟨rfl,rfl⟩|exact fin_ret hb rfl rfl List.take_left ⟨rfl,rfl⟩|(trace_state;fail "fin")
      ·rw[if_neg (by omega)];simp -dsimp -implicitDefEqProofs only[aw,V.copy,Nat.reduceLeDiff,cond_true,cond_false,eq_self,reduceIte,Nat.reduceBEq,Nat.reduceLT,Nat.reduceEqDiff,Nat.reduceAdd,decide_eq_false a1,decide_eq_false a2,decide_eq_false a3,decide_eq_false a4,decide_true,decide_false,Int.reduceEq,decide_eq_true z,decide_eq_false i1,decide_eq_false i2];first|exact fin_ret hb rfl rfl List.take_length ⟨rfl,rfl⟩|exact fin_ret hb rfl rfl List.take_left ⟨rfl,rfl⟩|(trace_state;fail "fin")
    ·rw[if_pos ⟨z,rfl⟩];simp -dsimp -implicitDefEqProofs only[aw,V.copy,Nat.reduceLeDiff,cond_true,cond_false,eq_self,reduceIte,Nat.reduceBEq,Nat.reduceLT,Nat.reduceEqDiff,Nat.reduceAdd,decide_eq_false a1,decide_eq_false a2,decide_eq_false a3,decide_eq_false a4,decide_true,decide_false,Int.reduceEq,decide_eq_false z];first|exact fin_ret hb rfl rfl List.take_length ⟨rfl,rfl⟩|exact fin_ret hb rfl rfl List.take_left ⟨rfl,rfl⟩|(trace_state;fail "fin")
   ·rw[if_pos ⟨m0,m1,m2⟩];simp -dsimp -implicitDefEqProofs only[aw,V.copy,Nat.reduceLeDiff,cond_true,cond_false,eq_self,reduceIte,Nat.reduceBEq,Nat.reduceLT,Nat.reduceEqDiff,Nat.reduceAdd,decide_eq_false a1,decide_eq_false a2,decide_eq_false a3,decide_eq_false a4,decide_eq_false m0,decide_eq_false m1,decide_eq_false m2];first|exact fin_ret hb rfl rfl List.take_length ⟨rfl,rfl⟩|exact fin_ret hb rfl rfl List.take_left ⟨rfl,rfl⟩|(trace_state;fail "fin")
theorem fname_fun(f:Fl)(σ:List (List V)):Fun G 70 [.agg ((dfl f).map V.d)] σ (RetV (.d (dstr f.name)) σ):=by
 refine fun_code Tryz.func70 k70 rfl fun hb hw=>?_;unfold c70;simp -dsimp -implicitDefEqProofs only[aw,slots0,V.copy,V.cells,V.boxable,Nat.reduceLeDiff,eq_self,reduceIte,reduceCtorEq,Nat.reduceBEq,Nat.reduceLT,Nat.reduceEqDiff,Nat.reduceAdd,dfl];first|exact fin_ret hb rfl rfl List.take_length ⟨rfl,rfl⟩|exact fin_ret hb rfl rfl List.take_left ⟨rfl,rfl⟩|(trace_state;fail "fin")
theorem bname_fun(b:Bk)(σ:List (List V)):Fun G 72 [.agg ((dbk b).map V.d)] σ (RetV (.d (dstr b.1)) σ):=by
 refine fun_code Tryz.func72 k72 rfl fun hb hw=>?_;unfold c72;simp -dsimp -implicitDefEqProofs only[aw,slots0,V.copy,V.cells,V.boxable,Nat.reduceLeDiff,eq_self,reduceIte,reduceCtorEq,Nat.reduceBEq,Nat.reduceLT,Nat.reduceEqDiff,Nat.reduceAdd,dbk];first|exact fin_ret hb rfl rfl List.take_length ⟨rfl,rfl⟩|exact fin_ret hb rfl rfl List.take_left ⟨rfl,rfl⟩|(trace_state;fail "fin")
theorem nod_of{L:List ByteArray}(h:∀a b,a<b→b<L.length→L[a]? ≠ L[b]?):L.Nodup:=List.pairwise_iff_getElem.2 fun i j hi hj hij e=>h i j hij hj (by rw[List.getElem?_eq_getElem hi,List.getElem?_eq_getElem hj,e])
theorem nod_not{L:List ByteArray}{a b:Nat}(h:a<b)(hb:b<L.length)(e:L[a]? = L[b]?):¬L.Nodup:=fun hn=>List.pairwise_iff_getElem.1 hn a b (by omega) hb h (by
 rw[List.getElem?_eq_getElem (show a<L.length by omega),List.getElem?_eq_getElem hb]at e;exact Option.some.inj e)
theorem rep_flds(l:List Fl)(hl:l.length≤1200000)(σ:List (List V)):Fun G 69 [.d (.sl (l.map dfl)),.fn 70 []] σ (RetV (vbool (decide (¬(l.map Fl.name).Nodup))) σ):=by
 refine fun_code Tryz.func69 k69 rfl fun hb hw=>?_;unfold c69;simp -dsimp -implicitDefEqProofs only[aw,slots0,V.copy,eq_self,reduceIte,reduceCtorEq,Nat.reduceBEq,Nat.reduceLT,Nat.reduceEqDiff];refine awp_forK [0,1,8,9] (fun(j:Nat) ρ σ'=>ρ=[(0,.d (.sl (l.map dfl))),(1,.fn 70 []),(8,vint .i64 l.length),(9,vint .i64 j)]∧σ'=σ∧∀a b,a<b→b<j→(l.map Fl.name)[a]? ≠ (l.map Fl.name)[b]?) l.length ⟨rfl,rfl,fun a b _ h=>by omega⟩ ?_ _;rintro j ρ' σ' hj ⟨rfl,rfl,hN⟩;by_cases hlt:j<l.length
 ·have wj:=wrap_nat hlt (show l.length≤9223372036854775807 by omega);simp -dsimp -implicitDefEqProofs only[aw,V.copy,eq_self,reduceIte,reduceCtorEq,Nat.reduceBEq,Nat.reduceLT,Nat.reduceEqDiff,Int.ofNat_lt,hlt,decide_true];refine awp_forK [0,1,5,8,9,12,13] (fun(m:Nat) ρ σ2=>ρ=[(0,.d (.sl (l.map dfl))),(1,.fn 70 []),(5,vint .i64 j),(8,vint .i64 l.length),(9,vint .i64 j),(12,vint .i64 j),(13,vint .i64 m)]∧σ2=σ'∧∀a,a<m→(l.map Fl.name)[a]? ≠ (l.map Fl.name)[j]?) j ⟨rfl,rfl,fun a h=>by omega⟩ ?_ _;rintro m ρ' σ2 hm ⟨rfl,rfl,hM⟩;by_cases hlm:m<j
  ·have wm:=wrap_nat hlm (show j≤9223372036854775807 by omega);have hml:m<l.length:=by omega
   have e1:(l.map dfl)[j]? = some (dfl l[j]):=by rw[List.getElem?_map,List.getElem?_eq_getElem hlt];rfl
   have e2:(l.map dfl)[m]? = some (dfl l[m]):=by rw[List.getElem?_map,List.getElem?_eq_getElem hml];rfl
   have n1:(l.map Fl.name)[j]? = some l[j].name:=by rw[List.getElem?_map,List.getElem?_eq_getElem hlt];rfl
   have n2:(l.map Fl.name)[m]? = some l[m].name:=by rw[List.getElem?_map,List.getElem?_eq_getElem hml];rfl
   have d1:∀f:Fl,dfl f=[dstr f.name,dint f.width,dint f.size,dint f.mode,dint f.init]:=fun _=>rfl;have f1:=fname_fun l[j];have f2:=fname_fun l[m];simp only[d1,List.map_cons,List.map_nil]at f1 f2;simp -dsimp -implicitDefEqProofs only[aw,V.copy,V.lend,V.lend1,Nat.reduceLeDiff,eq_self,reduceIte,reduceCtorEq,Nat.reduceBEq,Nat.reduceLT,Nat.reduceEqDiff,Nat.reduceAdd,Int.ofNat_lt,hlm,decide_true,e1,d1];refine calm_ret (f1 _) ?_;simp -dsimp -implicitDefEqProofs only[aw,V.copy,V.lend,V.lend1,Nat.reduceLeDiff,eq_self,reduceIte,reduceCtorEq,Nat.reduceLT,Nat.reduceEqDiff,Nat.reduceAdd,e2,d1];refine calm_ret (f2 _) ?_;by_cases hq:l[j].name=l[m].name
   ·have hd:decide (¬(l.map Fl.name).Nodup)=true:=decide_eq_true (nod_not hlm (by rw[List.length_map];exact hlt) (by rw[n1,n2,hq]));rw[hd];simp -dsimp -implicitDefEqProofs only[aw,V.copy,eq_self,reduceIte,reduceCtorEq,Nat.reduceBEq,Nat.reduceLT,Nat.reduceEqDiff,hq,decide_true];first|exact fin_ret hb rfl rfl List.take_length ⟨rfl,rfl⟩|exact fin_ret hb rfl rfl List.take_left ⟨rfl,rfl⟩|(trace_state;fail "fin")
   ·simp -dsimp -implicitDefEqProofs only[aw,V.copy,eq_self,reduceIte,reduceCtorEq,Nat.reduceBEq,Nat.reduceLT,Nat.reduceEqDiff,decide_eq_false hq,wm]
    exact⟨hlm,Nxt.same (Nat.le_refl _) hb (by simp[slotsBelow,V.under,V.unders]) ⟨rfl,rfl,fun a ha=>by
     by_cases e:a=m
     ·subst e;rw[n1,n2];exact fun h=>hq (Option.some.inj h).symm
     ·exact hM a (by omega)⟩⟩
  ·simp -dsimp -implicitDefEqProofs only[aw,V.copy,eq_self,reduceIte,reduceCtorEq,Nat.reduceBEq,Nat.reduceLT,Nat.reduceEqDiff,Int.ofNat_lt,hlm,decide_false,wj]
   exact⟨hlt,Nxt.same (Nat.le_refl _) hb (by simp[slotsBelow,V.under,V.unders]) ⟨rfl,rfl,fun a b hab hbj=>by
    by_cases e:b=j
    ·subst e;exact hM a (by omega)
    ·exact hN a b hab (by omega)⟩⟩
 ·have hd:decide (¬(l.map Fl.name).Nodup)=false:=decide_eq_false (fun h=>h (nod_of fun a b hab hbl=>hN a b hab (by rw[List.length_map]at hbl;omega)));rw[hd];simp -dsimp -implicitDefEqProofs only[aw,V.copy,eq_self,reduceIte,reduceCtorEq,Nat.reduceBEq,Nat.reduceLT,Nat.reduceEqDiff,Int.ofNat_lt,hlt,decide_false];first|exact fin_ret hb rfl rfl List.take_length ⟨rfl,rfl⟩|exact fin_ret hb rfl rfl List.take_left ⟨rfl,rfl⟩|(trace_state;fail "fin")
theorem rep_blks(l:List Bk)(hl:l.length≤1200000)(σ:List (List V)):Fun G 71 [.d (.sl (l.map dbk)),.fn 72 []] σ (RetV (vbool (decide (¬(l.map Prod.fst).Nodup))) σ):=by
 refine fun_code Tryz.func71 k71 rfl fun hb hw=>?_;unfold c71;simp -dsimp -implicitDefEqProofs only[aw,slots0,V.copy,eq_self,reduceIte,reduceCtorEq,Nat.reduceBEq,Nat.reduceLT,Nat.reduceEqDiff];refine awp_forK [0,1,8,9] (fun(j:Nat) ρ σ'=>ρ=[(0,.d (.sl (l.map dbk))),(1,.fn 72 []),(8,vint .i64 l.length),(9,vint .i64 j)]∧σ'=σ∧∀a b,a<b→b<j→(l.map Prod.fst)[a]? ≠ (l.map Prod.fst)[b]?) l.length ⟨rfl,rfl,fun a b _ h=>by omega⟩ ?_ _;rintro j ρ' σ' hj ⟨rfl,rfl,hN⟩;by_cases hlt:j<l.length
 ·have wj:=wrap_nat hlt (show l.length≤9223372036854775807 by omega);simp -dsimp -implicitDefEqProofs only[aw,V.copy,eq_self,reduceIte,reduceCtorEq,Nat.reduceBEq,Nat.reduceLT,Nat.reduceEqDiff,Int.ofNat_lt,hlt,decide_true];refine awp_forK [0,1,5,8,9,12,13] (fun(m:Nat) ρ σ2=>ρ=[(0,.d (.sl (l.map dbk))),(1,.fn 72 []),(5,vint .i64 j),(8,vint .i64 l.length),(9,vint .i64 j),(12,vint .i64 j),(13,vint .i64 m)]∧σ2=σ'∧∀a,a<m→(l.map Prod.fst)[a]? ≠ (l.map Prod.fst)[j]?) j ⟨rfl,rfl,fun a h=>by omega⟩ ?_ _;rintro m ρ' σ2 hm ⟨rfl,rfl,hM⟩;by_cases hlm:m<j
  ·have wm:=wrap_nat hlm (show j≤9223372036854775807 by omega);have hml:m<l.length:=by omega
   have e1:(l.map dbk)[j]? = some (dbk l[j]):=by rw[List.getElem?_map,List.getElem?_eq_getElem hlt];rfl
   have e2:(l.map dbk)[m]? = some (dbk l[m]):=by rw[List.getElem?_map,List.getElem?_eq_getElem hml];rfl
   have n1:(l.map Prod.fst)[j]? = some l[j].1:=by rw[List.getElem?_map,List.getElem?_eq_getElem hlt];rfl
   have n2:(l.map Prod.fst)[m]? = some l[m].1:=by rw[List.getElem?_map,List.getElem?_eq_getElem hml];rfl
   have d1:∀b:Bk,dbk b=[dstr b.1,ditl b.2]:=fun _=>rfl;have f1:=bname_fun l[j];have f2:=bname_fun l[m];simp only[d1,List.map_cons,List.map_nil]at f1 f2;simp -dsimp -implicitDefEqProofs only[aw,V.copy,V.lend,V.lend1,Nat.reduceLeDiff,eq_self,reduceIte,reduceCtorEq,Nat.reduceBEq,Nat.reduceLT,Nat.reduceEqDiff,Nat.reduceAdd,Int.ofNat_lt,hlm,decide_true,e1,d1];refine calm_ret (f1 _) ?_;simp -dsimp -implicitDefEqProofs only[aw,V.copy,V.lend,V.lend1,Nat.reduceLeDiff,eq_self,reduceIte,reduceCtorEq,Nat.reduceLT,Nat.reduceEqDiff,Nat.reduceAdd,e2,d1];refine calm_ret (f2 _) ?_;by_cases hq:l[j].1=l[m].1
   ·have hd:decide (¬(l.map Prod.fst).Nodup)=true:=decide_eq_true (nod_not hlm (by rw[List.length_map];exact hlt) (by rw[n1,n2,hq]));rw[hd];simp -dsimp -implicitDefEqProofs only[aw,V.copy,eq_self,reduceIte,reduceCtorEq,Nat.reduceBEq,Nat.reduceLT,Nat.reduceEqDiff,hq,decide_true];first|exact fin_ret hb rfl rfl List.take_length ⟨rfl,rfl⟩|exact fin_ret hb rfl rfl List.take_left ⟨rfl,rfl⟩|(trace_state;fail "fin")
   ·simp -dsimp -implicitDefEqProofs only[aw,V.copy,eq_self,reduceIte,reduceCtorEq,Nat.reduceBEq,Nat.reduceLT,Nat.reduceEqDiff,decide_eq_false hq,wm]
    exact⟨hlm,Nxt.same (Nat.le_refl _) hb (by simp[slotsBelow,V.under,V.unders]) ⟨rfl,rfl,fun a ha=>by
     by_cases e:a=m
     ·subst e;rw[n1,n2];exact fun h=>hq (Option.some.inj h).symm
     ·exact hM a (by omega)⟩⟩
  ·simp -dsimp -implicitDefEqProofs only[aw,V.copy,eq_self,reduceIte,reduceCtorEq,Nat.reduceBEq,Nat.reduceLT,Nat.reduceEqDiff,Int.ofNat_lt,hlm,decide_false,wj]
   exact⟨hlt,Nxt.same (Nat.le_refl _) hb (by simp[slotsBelow,V.under,V.unders]) ⟨rfl,rfl,fun a b hab hbj=>by
    by_cases e:b=j
    ·subst e;exact hM a (by omega)
    ·exact hN a b hab (by omega)⟩⟩
 ·have hd:decide (¬(l.map Prod.fst).Nodup)=false:=decide_eq_false (fun h=>h (nod_of fun a b hab hbl=>hN a b hab (by rw[List.length_map]at hbl;omega)));rw[hd];simp -dsimp -implicitDefEqProofs only[aw,V.copy,eq_self,reduceIte,reduceCtorEq,Nat.reduceBEq,Nat.reduceLT,Nat.reduceEqDiff,Int.ofNat_lt,hlt,decide_false];first|exact fin_ret hb rfl rfl List.take_length ⟨rfl,rfl⟩|exact fin_ret hb rfl rfl List.take_left ⟨rfl,rfl⟩|(trace_state;fail "fin")
theorem ctv1_fun(b:Bk)(σ:List (List V)):Fun G 68 [.agg ((dbk b).map V.d)] σ (RetV (vbool (!nameB b.1)) σ):=by
 refine fun_code Tryz.func68 k68 rfl fun hb hw=>?_;unfold c68;simp -dsimp -implicitDefEqProofs only[aw,slots0,V.copy,V.lend,V.cells,V.boxable,Nat.reduceLeDiff,eq_self,reduceIte,reduceCtorEq,Nat.reduceBEq,Nat.reduceLT,Nat.reduceEqDiff,Nat.reduceAdd,dbk];refine fun_ret (fun_lname b.1 _) ?_;simp -dsimp -implicitDefEqProofs only[aw,V.copy,eq_self,reduceIte,Nat.reduceBEq,Nat.reduceLT,Nat.reduceEqDiff];first|exact fin_ret hb rfl rfl List.take_length ⟨rfl,rfl⟩|exact fin_ret hb rfl rfl List.take_left ⟨rfl,rfl⟩|(trace_state;fail "fin")
theorem idx_fun(l:List Bk)(hl:l.length≤1200000)(σ:List (List V)):Fun G 106 [.d (.sl (l.map dbk)),.fn 68 []] σ (RetV (.d (dint (idxB l 0))) σ):=by
 refine fun_code Tryz.func106 k106 rfl fun hb hw=>?_;unfold c106;simp -dsimp -implicitDefEqProofs only[aw,slots0,V.copy,eq_self,reduceIte,reduceCtorEq,Nat.reduceBEq,Nat.reduceLT,Nat.reduceEqDiff];refine awp_forK [0,1,7,8] (fun(j:Nat) ρ σ'=>ρ=[(0,.d (.sl (l.map dbk))),(1,.fn 68 []),(7,vint .i64 l.length),(8,vint .i64 j)]∧σ'=σ∧idxB l 0=idxB (l.drop j) j) l.length ⟨rfl,rfl,rfl⟩ ?_ _;rintro j ρ' σ' hj ⟨rfl,rfl,hI⟩;by_cases hlt:j<l.length
 ·have wj:=wrap_nat hlt (show l.length≤9223372036854775807 by omega);have e1:(l.map dbk)[j]? = some (dbk l[j]):=by rw[List.getElem?_map,List.getElem?_eq_getElem hlt];rfl
  have d1:∀b:Bk,dbk b=[dstr b.1,ditl b.2]:=fun _=>rfl;have f1:=ctv1_fun l[j];simp only[d1,List.map_cons,List.map_nil]at f1;rw[List.drop_eq_getElem_cons hlt,idxB]at hI;rw[hI];simp -dsimp -implicitDefEqProofs only[aw,V.copy,V.lend,V.lend1,Nat.reduceLeDiff,eq_self,reduceIte,reduceCtorEq,Nat.reduceBEq,Nat.reduceLT,Nat.reduceEqDiff,Nat.reduceAdd,Int.ofNat_lt,hlt,decide_true,e1,d1];refine fun_ret (f1 _) ?_;cases hn:nameB l[j].1 with
  | false=>
   rw[if_pos rfl];simp -dsimp -implicitDefEqProofs only[aw,V.copy,eq_self,reduceIte,reduceCtorEq,Nat.reduceBEq,Nat.reduceLT,Nat.reduceEqDiff];first|exact fin_ret hb rfl rfl List.take_length ⟨rfl,rfl⟩|exact fin_ret hb rfl rfl List.take_left ⟨rfl,rfl⟩|(trace_state;fail "fin")
  | true=>
   rw[if_neg (show ¬(true=false)by simp)];rw[hn,if_neg (show ¬(true=false)by simp)]at hI;simp -dsimp -implicitDefEqProofs only[aw,V.copy,eq_self,reduceIte,reduceCtorEq,Nat.reduceBEq,Nat.reduceLT,Nat.reduceEqDiff,wj];exact⟨hlt,Nxt.same (Nat.le_refl _) hb (by simp[slotsBelow,V.under,V.unders]) ⟨rfl,rfl,by rw[show((j+1:Nat):Int)=(j:Int)+1 by omega]⟩⟩
 ·rw[List.drop_eq_nil_of_le (by omega),idxB]at hI;rw[hI];simp -dsimp -implicitDefEqProofs only[aw,V.copy,eq_self,reduceIte,reduceCtorEq,Nat.reduceBEq,Nat.reduceLT,Nat.reduceEqDiff,Int.ofNat_lt,hlt,decide_false];first|exact fin_ret hb rfl rfl List.take_length ⟨rfl,rfl⟩|exact fin_ret hb rfl rfl List.take_left ⟨rfl,rfl⟩|(trace_state;fail "fin")
theorem cont_fun(l:List Bk)(hl:l.length≤1200000)(σ:List (List V)):Fun G 67 [.d (.sl (l.map dbk)),.fn 68 []] σ (RetV (vbool (decide (0≤idxB l 0))) σ):=by
 refine fun_code Tryz.func67 k67 rfl fun hb hw=>?_;unfold c67;simp -dsimp -implicitDefEqProofs only[aw,slots0,V.copy,V.lend,eq_self,reduceIte,reduceCtorEq,Nat.reduceBEq,Nat.reduceLT,Nat.reduceEqDiff];refine fun_ret (idx_fun l hl _) ?_;simp -dsimp -implicitDefEqProofs only[aw,V.copy,eq_self,reduceIte,reduceCtorEq,Nat.reduceBEq,Nat.reduceLT,Nat.reduceEqDiff];first|exact fin_ret hb rfl rfl List.take_length ⟨rfl,rfl⟩|exact fin_ret hb rfl rfl List.take_left ⟨rfl,rfl⟩|(trace_state;fail "fin")
end Go.Proofs.YtcbahpllcfbkmaaGreatDoor
