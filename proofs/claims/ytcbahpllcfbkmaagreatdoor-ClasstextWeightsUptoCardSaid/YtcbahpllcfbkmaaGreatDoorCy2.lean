import Derived.Test.YtcbahpllcfbkmaaGreatDoorCx1
set_option linter.unusedVariables false
set_option linter.unusedSimpArgs false
set_option linter.unusedSectionVars false
namespace Go.Proofs.YtcbahpllcfbkmaaGreatDoor
open Go.RowKit
def exE:Ex:=.mk 17 0 ⟨#[]⟩ [.mk 2 0 ⟨#[107,105,110,100]⟩ [],.mk 1 3 ⟨#[]⟩ []]
def exI:It:=.mk 1 exE ⟨#[]⟩ ⟨#[]⟩ [] [] [] [] []
def exK:Kl:=⟨⟨#[112]⟩,⟨#[98,97,115,101]⟩,[⟨⟨#[107,105,110,100]⟩,2,0,1,0⟩],[(⟨#[108,101,103,97,108]⟩,[exI])]⟩
def exW:List Wt:=[⟨0,0,2,true⟩,⟨1,3,6,false⟩]
theorem ex_wts:bs (wtsT exW)=⟨#[48,32,58,61,32,50,44,32,49,32,46,46,32,51,32,58,47,32,54]⟩:=by kernel_rfl
theorem ex_print:bs (printT exK)=⟨#[99,108,97,115,115,32,112,32,101,120,116,101,110,100,115,32,98,97,115,101,32,123,10,32,32,32,32,114,97,110,100,32,107,105,110,100,32,58,32,50,59,10,32,32,32,32,99,111,110,115,116,114,97,105,110,116,32,108,101,103,97,108,32,123,10,32,32,32,32,32,32,32,32,107,105,110,100,32,60,32,51,59,10,32,32,32,32,125,10,125,10]⟩:=by kernel_rfl
set_option maxHeartbeats 4000000 in
theorem awake_fun(σ:List (List V)):Fun G 12 [] σ (RetV (vbool true) σ):=by
 have f1:=fun σ=>ctWeights_fun exW (fun w hw=>by
  rcases List.mem_cons.1 hw with rfl|hw
  ·exact⟨by decide,by decide,by decide,by decide,by decide,by decide⟩
  ·rw[List.mem_singleton.1 hw];exact⟨by decide,by decide,by decide,by decide,by decide,by decide⟩) (by decide) σ
 have f2:=fun σ=>print_fun exK (by decide) (by decide) (by decide) σ;rw[ex_wts]at f1;rw[ex_print]at f2;refine fun_code Tryz.func12 k12 rfl fun hb hw=>?_;unfold c12;simp -dsimp -implicitDefEqProofs only[aw,slots0,V.copy,V.lend,V.lend1,V.cells,V.boxable,over,bldV,boundV,rowsOf,plains,V.plain,Nat.reduceLeDiff,cond_true,cond_false,implies_true,eq_self,ne_eq,reduceIte,reduceCtorEq,Nat.reduceBEq,Nat.reduceLT,Nat.reduceEqDiff,Nat.reduceAdd,Nat.reduceSub,Nat.reduceMul];refine fun_ret (f1 _) ?_;simp -dsimp -implicitDefEqProofs only[aw,slots0,V.copy,V.lend,V.lend1,V.cells,V.boxable,over,bldV,boundV,rowsOf,plains,V.plain,Nat.reduceLeDiff,cond_true,cond_false,implies_true,eq_self,ne_eq,reduceIte,reduceCtorEq,Nat.reduceBEq,Nat.reduceLT,Nat.reduceEqDiff,Nat.reduceAdd,Nat.reduceSub,Nat.reduceMul,decide_true];refine fun_ret (f2 _) ?_
 simp -dsimp -implicitDefEqProofs only[aw,slots0,V.copy,V.lend,V.lend1,V.cells,V.boxable,over,bldV,boundV,rowsOf,plains,V.plain,Nat.reduceLeDiff,cond_true,cond_false,implies_true,eq_self,ne_eq,reduceIte,reduceCtorEq,Nat.reduceBEq,Nat.reduceLT,Nat.reduceEqDiff,Nat.reduceAdd,Nat.reduceSub,Nat.reduceMul,decide_true];first|exact fin_ret hb rfl rfl List.take_length ⟨rfl,rfl⟩|exact fin_ret hb rfl rfl List.take_left ⟨rfl,rfl⟩|(trace_state;fail "fin")
abbrev dkl(c:Kl):List D:=[dstr c.name,dstr c.par,.sl (c.flds.map dfl),.sl (c.blks.map dbk)]
theorem mn_lit(a b:Nat):mxV false (.d (.lit (.int .i64 (a:Int)))) (.d (.lit (.int .i64 (b:Int))))=some (vint .i64 ((min a b:Nat):Int)):=by
 have h:(if(b:Int)<(a:Int)then(b:Int)else(a:Int))=((min a b:Nat):Int):=by split<;>omega
 unfold mxV;simp only[if_true,Bool.false_eq_true,if_false,h]
theorem sub_take(k:Nat)(rows:List (List D))(m:Nat)(hm:m≤rows.length)(h:rows.all (fun r=>r.length==k)=true):subV false k (.d (.sl rows)) none (some (vint .i64 (m:Int)))=some (.d (.sl (rows.take m))):=by
 simp[subV,rowsV,boundV,vint,hm,h]
def KlsOk(l:List Kl):Prop:=∀c,c∈l→kbig c≤1100000∧c.flds.length≤1200000∧c.blks.length≤1200000
theorem last_line(k:Nat)(x:Ln):(lnT k x).getLast? = some 10:=by
 unfold lnT;rw[←List.append_assoc,List.getLast?_concat]
theorem last_app{α:Type}(a b:List α)(h:b≠[]):(a++b).getLast? = b.getLast? := by
 rw[List.getLast?_append];cases hb:b.getLast? with
 | none=>exact absurd (List.getLast?_eq_none_iff.1 hb) h
 | some x=>rfl
theorem cls_last(c:Kl):(clsT c).getLast? = some 10:=by
 have e:clsT c=lnT 0 (0,[99,108,97,115,115,32]++(strT c.name++(parT c.par++[32,123])))++(lnsT 0 (upL (c.flds.map (fun f=>(0,fldT f))++c.blks.flatMap blkL))++lnT 0 (0,[125])):=by
  unfold clsT clsL;rw[lnsT_cons,lnsT_app,lnsT_cons,lnsT_nil,List.append_nil]
 rw[e,last_app _ _ (by simp[lnT]),last_app _ _ (by simp[lnT]),last_line]
theorem src_end:∀l:List Kl,(∀c,c∈l→KlV c)→endS 10 (sepT [10] (l.map clsT))=true
 | [],_=>rfl
 | [c],h=>by
  have:=end_lns 0 (clsL c) [] (clsL_ok (h c (by simp)).ok);rw[List.append_nil]at this;exact this
 | c::d::r,h=>by
  have h1:=end_lns 0 (clsL c) ([10]++sepT [10] ((d::r).map clsT)) (clsL_ok (h c (by simp)).ok);have h2:=src_end (d::r) fun x hx=>h x (by simp only[List.mem_cons]at hx ⊢;exact .inr hx);show endS 10 (clsT c++([10]++sepT [10] ((d::r).map clsT)))=true;unfold clsT at h1 ⊢;rw[h1];show(!((10:UInt8)==10&&(10:UInt8)==32)&&((10:UInt8)==10||prB 10)&&endS 10 (sepT [10] ((d::r).map clsT)))=true;rw[h2];rfl
theorem src_last:∀l:List Kl,l≠[]→(sepT [10] (l.map clsT)).getLast? = some 10
 | [],h=>absurd rfl h
 | [c],_=>cls_last c
 | c::d::r,_=>by
  have h2:=src_last (d::r) (by simp);show(clsT c++([10]++sepT [10] ((d::r).map clsT))).getLast? = some 10;have hne:sepT [10] ((d::r).map clsT)≠[]:=fun e=>by rw[e]at h2;cases h2
  rw[last_app _ _ (by simp),last_app _ _ hne,h2]
theorem srcT_ok{l:List Kl}:endS 10 (srcT l)=true∧(srcT l=[]∨(srcT l).getLast? = some 10):=by
 unfold srcT;split
 ·rename_i h;have hv:∀c,c∈l→KlV c:=fun c hc=>(printB_iff c).1 (List.all_eq_true.1 h c hc);refine⟨src_end l hv,?_⟩;by_cases h0:l=[]
  ·subst h0;exact .inl rfl
  ·exact .inr (src_last l h0)
 ·exact⟨rfl,.inl rfl⟩
theorem srcT_len{l:List Kl}(hl:l.length≤6)(h:KlsOk l):(srcT l).length≤7000000000:=by
 unfold srcT;split
 ·rename_i hp
  have:=sep_len [10] 1000000000 (l.map clsT) fun a ha=>by
   obtain⟨c,hc,rfl⟩:=List.mem_map.1 ha;exact cls_len ((printB_iff c).1 (List.all_eq_true.1 hp c hc)) (h c hc).1
  rw[List.length_map]at this;have h2:l.length*(1000000000+([10]:Bs).length)≤6*(1000000000+([10]:Bs).length):=Nat.mul_le_mul_right _ hl;simp only[List.length_cons,List.length_nil]at this h2;omega
 ·simp
set_option maxHeartbeats 4000000 in
theorem lines_law(l:List Kl)(hl:l.length≤1200000)(h:KlsOk l)(σ:List (List V)):Fun G 9 [.d (.sl (l.map dkl))] σ (RetV (vbool true) σ):=by
 have hk:KlsOk (l.take 6):=fun c hc=>h c (List.mem_of_mem_take hc);have hl6:(l.take 6).length≤6:=List.length_take_le ..;have f1:=fun σ=>source_fun (l.take 6) hl6 hk σ;have hlen:=srcT_len hl6 hk;obtain⟨hE,hLast⟩:=srcT_ok (l:=l.take 6);have hmn:mxV false (.d (.lit (.int .i64 (l.length:Int)))) (.d (.lit (.int .i64 6)))=_:=mn_lit l.length 6;have hsub:=sub_take 4 (l.map dkl) (min l.length 6) (by rw[List.length_map];omega) (by rw[List.all_map,List.all_eq_true];intro c _;rfl)
 have ht:(l.map dkl).take (min l.length 6)=(l.take 6).map dkl:=by
  rw[←List.map_take];congr 1;by_cases h6:l.length≤6
  ·rw[Nat.min_eq_left h6,List.take_length,List.take_of_length_le h6]
  ·rw[Nat.min_eq_right (by omega)]
 rw[ht]at hsub;generalize srcT (l.take 6)=T at *;refine fun_code Tryz.func9 k9 rfl fun hb hw=>?_;unfold c9;simp -dsimp -implicitDefEqProofs only[aw,slots0,V.copy,V.lend,V.lend1,V.cells,V.boxable,over,bldV,boundV,rowsOf,plains,V.plain,Nat.reduceLeDiff,cond_true,cond_false,implies_true,eq_self,ne_eq,reduceIte,reduceCtorEq,Nat.reduceBEq,Nat.reduceLT,Nat.reduceEqDiff,Nat.reduceAdd,Nat.reduceSub,Nat.reduceMul,List.length_map,hmn,hsub,Option.map_none,Option.map_some];refine fun_ret (f1 _) ?_;simp -dsimp -implicitDefEqProofs only[aw,slots0,V.copy,V.lend,V.lend1,V.cells,V.boxable,over,bldV,boundV,rowsOf,plains,V.plain,Nat.reduceLeDiff,cond_true,cond_false,implies_true,eq_self,ne_eq,reduceIte,reduceCtorEq,Nat.reduceBEq,Nat.reduceLT,Nat.reduceEqDiff,Nat.reduceAdd,Nat.reduceSub,Nat.reduceMul]
 refine awp_forK [3,4] (fun(j:Nat) ρ σ'=>ρ=[(3,.d (dstr (bs T))),(4,vint .i64 j)]∧σ'=σ∧∃p,endS p (T.drop j)=true∧(0<j→T[j-1]? = some p)) T.length ⟨rfl,rfl,10,hE,fun h=>by omega⟩ ?_ _;rintro j ρ' σ' hj ⟨rfl,rfl,p,hI,hpj⟩;by_cases hlt:j<T.length
 ·have wj:=wrap_nat hlt (show T.length≤9223372036854775807 by omega);have e1:(bs T).data.toList[j]? = some T[j]:=by rw[bs_list,List.getElem?_eq_getElem hlt]
  rw[List.drop_eq_getElem_cons hlt,endS]at hI;generalize hc:T[j]=c at *;simp only[Bool.and_eq_true,Bool.not_eq_true',Bool.or_eq_true,beq_iff_eq]at hI;obtain⟨⟨q1,q2⟩,q3⟩:=hI
  have done:Nxt σ'.length (fun ρ s=>ρ=[(3,.d (dstr (bs T))),(4,vint .i64 ((j+1:Nat):Int))]∧s=σ'∧∃p,endS p (T.drop (j+1))=true∧(0<j+1→T[j+1-1]? = some p)) [(3,.d (dstr (bs T))),(4,vint .i64 ((j+1:Nat):Int))] σ' .mk:=
   Nxt.same (Nat.le_refl _) hb (by simp[slotsBelow,V.under]) ⟨rfl,rfl,c,q3,fun _=>by rw[Nat.add_sub_cancel,List.getElem?_eq_getElem hlt,hc]⟩
  by_cases h10:c=10
  ·have d10:decide (((c.toNat:Nat):Int)=10)=true:=by rw[h10];rfl
   by_cases j0:0<j
   ·have d0:decide ((0:Int)<(j:Nat))=true:=decide_eq_true (by omega);have wm:IntKind.i64.wrap ((j:Int)-1)=((j-1:Nat):Int):=by rw[wrap_i64 (by omega) (by omega)];omega
    have e2:(bs T).data.toList[j-1]? = some p:=by rw[bs_list];exact hpj j0
    have d32:decide (((p.toNat:Nat):Int)=32)=false:=by
     refine decide_eq_false fun e=>?_;have:p=32:=UInt8.toNat_inj.1 (by show p.toNat=32;omega);rw[h10,this]at q1;cases q1
    simp -dsimp -implicitDefEqProofs only[aw,slots0,V.copy,V.lend,V.lend1,V.cells,V.boxable,over,bldV,boundV,rowsOf,plains,V.plain,Nat.reduceLeDiff,cond_true,cond_false,implies_true,eq_self,ne_eq,reduceIte,reduceCtorEq,Nat.reduceBEq,Nat.reduceLT,Nat.reduceEqDiff,Nat.reduceAdd,Nat.reduceSub,Nat.reduceMul,bs_size,Int.ofNat_lt,hlt,decide_true,e1,e2,ixK,d10,d0,wm,d32,wj];first|exact done|exact⟨hlt,done⟩
   ·have d0:decide ((0:Int)<(j:Nat))=false:=decide_eq_false (by omega);simp -dsimp -implicitDefEqProofs only[aw,slots0,V.copy,V.lend,V.lend1,V.cells,V.boxable,over,bldV,boundV,rowsOf,plains,V.plain,Nat.reduceLeDiff,cond_true,cond_false,implies_true,eq_self,ne_eq,reduceIte,reduceCtorEq,Nat.reduceBEq,Nat.reduceLT,Nat.reduceEqDiff,Nat.reduceAdd,Nat.reduceSub,Nat.reduceMul,bs_size,Int.ofNat_lt,hlt,decide_true,e1,ixK,d10,d0,wj];first|exact done|exact⟨hlt,done⟩
  ·have d10:decide (((c.toNat:Nat):Int)=10)=false:=decide_eq_false fun e=>h10 (UInt8.toNat_inj.1 (by show c.toNat=10;omega));have hp:=q2.resolve_left h10;unfold prB at hp;simp only[Bool.and_eq_true,decide_eq_true_eq]at hp;have d1:decide (((c.toNat:Nat):Int)<32)=false:=decide_eq_false (by omega);have d2:decide ((126:Int)<((c.toNat:Nat):Int))=false:=decide_eq_false (by omega);simp -dsimp -implicitDefEqProofs only[aw,slots0,V.copy,V.lend,V.lend1,V.cells,V.boxable,over,bldV,boundV,rowsOf,plains,V.plain,Nat.reduceLeDiff,cond_true,cond_false,implies_true,eq_self,ne_eq,reduceIte,reduceCtorEq,Nat.reduceBEq,Nat.reduceLT,Nat.reduceEqDiff,Nat.reduceAdd,Nat.reduceSub,Nat.reduceMul,bs_size,Int.ofNat_lt,hlt,decide_true,e1,ixK,d10,d1,d2,wj];first|exact done|exact⟨hlt,done⟩
 ·rcases hLast with h0|hLast
  ·subst h0;have hd:decide (bs ([]:Bs)=⟨#[]⟩)=true:=rfl;have dj:decide (((j:Nat):Int)<0)=false:=decide_eq_false (by omega);simp -dsimp -implicitDefEqProofs only[aw,slots0,V.copy,V.lend,V.lend1,V.cells,V.boxable,over,bldV,boundV,rowsOf,plains,V.plain,Nat.reduceLeDiff,cond_true,cond_false,implies_true,eq_self,ne_eq,reduceIte,reduceCtorEq,Nat.reduceBEq,Nat.reduceLT,Nat.reduceEqDiff,Nat.reduceAdd,Nat.reduceSub,Nat.reduceMul,bs_size,List.length_nil,Int.natCast_zero,dj,hd];refine fun_ret (awake_fun _) ?_;simp -dsimp -implicitDefEqProofs only[aw,slots0,V.copy,V.lend,V.lend1,V.cells,V.boxable,over,bldV,boundV,rowsOf,plains,V.plain,Nat.reduceLeDiff,cond_true,cond_false,implies_true,eq_self,ne_eq,reduceIte,reduceCtorEq,Nat.reduceBEq,Nat.reduceLT,Nat.reduceEqDiff,Nat.reduceAdd,Nat.reduceSub,Nat.reduceMul]
   first|exact fin_ret hb rfl rfl List.take_length ⟨rfl,rfl⟩|exact fin_ret hb rfl rfl List.take_left ⟨rfl,rfl⟩|(trace_state;fail "fin")
  ·have hne:T≠[]:=fun e=>by rw[e]at hLast;cases hLast
   have hpos:=List.length_pos_iff.2 hne;have hd:decide (bs T=⟨#[]⟩)=false:=decide_eq_false (by rw[bs_eq_nil];exact hne);have wm:IntKind.i64.wrap (((T.length:Nat):Int)-1)=((T.length-1:Nat):Int):=by rw[wrap_i64 (by omega) (by omega)];omega
   have e2:(bs T).data.toList[T.length-1]? = some 10:=by rw[bs_list,←List.getLast?_eq_getElem?];exact hLast
   have d10:decide ((((10:UInt8).toNat:Nat):Int)=10)=true:=rfl;simp -dsimp -implicitDefEqProofs only[aw,slots0,V.copy,V.lend,V.lend1,V.cells,V.boxable,over,bldV,boundV,rowsOf,plains,V.plain,Nat.reduceLeDiff,cond_true,cond_false,implies_true,eq_self,ne_eq,reduceIte,reduceCtorEq,Nat.reduceBEq,Nat.reduceLT,Nat.reduceEqDiff,Nat.reduceAdd,Nat.reduceSub,Nat.reduceMul,bs_size,Int.ofNat_lt,hlt,decide_false,hd,wm,e2,ixK,d10];refine fun_ret (awake_fun _) ?_;simp -dsimp -implicitDefEqProofs only[aw,slots0,V.copy,V.lend,V.lend1,V.cells,V.boxable,over,bldV,boundV,rowsOf,plains,V.plain,Nat.reduceLeDiff,cond_true,cond_false,implies_true,eq_self,ne_eq,reduceIte,reduceCtorEq,Nat.reduceBEq,Nat.reduceLT,Nat.reduceEqDiff,Nat.reduceAdd,Nat.reduceSub,Nat.reduceMul];first|exact fin_ret hb rfl rfl List.take_length ⟨rfl,rfl⟩|exact fin_ret hb rfl rfl List.take_left ⟨rfl,rfl⟩|(trace_state;fail "fin")
end Go.Proofs.YtcbahpllcfbkmaaGreatDoor
