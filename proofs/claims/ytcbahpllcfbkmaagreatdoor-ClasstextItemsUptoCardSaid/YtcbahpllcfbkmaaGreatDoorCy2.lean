import Derived.Test.YtcbahpllcfbkmaaGreatDoorCw9
set_option linter.unusedVariables false
set_option linter.unusedSimpArgs false
set_option linter.unusedSectionVars false
namespace Go.Proofs.YtcbahpllcfbkmaaGreatDoor
open Go.RowKit
def printT(c:Kl):Bs:=if printB c=true then clsT c else[]
set_option maxHeartbeats 8000000 in
theorem print_fun(c:Kl)(hk:kbig c≤1100000)(hf:c.flds.length≤1200000)(hbk:c.blks.length≤1200000)(σ:List (List V)):Fun G 13 [vkl c] σ (RetV (.d (dstr (bs (printT c)))) σ):=by
 refine fun_code Tryz.func13 k13 rfl fun hb hw=>?_;unfold c13 printT;simp -dsimp -implicitDefEqProofs only[aw,slots0,V.copy,V.lend,V.lend1,V.cells,V.boxable,Nat.reduceLeDiff,eq_self,reduceIte,reduceCtorEq,Nat.reduceBEq,Nat.reduceLT,Nat.reduceEqDiff,Nat.reduceAdd];refine fun_ret (printable_fun c hk hf hbk _) ?_;cases hp:printB c with
 | false=>
  rw[if_neg (by simp)];simp -dsimp -implicitDefEqProofs only[aw,V.copy,bldV,eq_self,reduceIte,Nat.reduceBEq,Nat.reduceLT,Nat.reduceEqDiff];first|exact fin_ret hb rfl rfl List.take_length ⟨rfl,rfl⟩|exact fin_ret hb rfl rfl List.take_left ⟨rfl,rfl⟩|(trace_state;fail "fin")
 | true=>
 have hv:=(printB_iff c).1 hp;have hn:=kln_of hv.cls;have hlen:=cls_len hv hk;rw[if_pos rfl]
 have hcl:clsT c=lnT 0 (0,[99,108,97,115,115,32]++(strT c.name++(parT c.par++[32,123])))++(lnsT 1 (fldL c.flds++c.blks.flatMap blkL)++lnT 0 (0,[125])):=by
  unfold clsT clsL;rw[lnsT_cons,lnsT_app,lnsT_up,lnsT_cons,lnsT_nil,List.append_nil];rfl
 obtain⟨S,hS⟩:∃S,S=parT c.par:=⟨_,rfl⟩
 rw[←hS]at hcl;have fl:[bs [99,108,97,115,115,32],c.name,bs S,bs [32,123]].flatMap strT=[99,108,97,115,115,32]++(strT c.name++(S++[32,123])):=by simp[strT,bs_list]
 rw[hcl]at hlen ⊢;simp only[List.length_append]at hlen;have hL:=fun i S' h=>line_at i none 0 [bs [99,108,97,115,115,32],c.name,bs S,bs [32,123]] (by omega) (by rw[fl];show 0+(lnT 0 (0,[99,108,97,115,115,32]++(strT c.name++(S++[32,123])))).length≤_;omega) (by simp) S' h;rw[fl]at hL;generalize hH:lnT 0 (0,[99,108,97,115,115,32]++(strT c.name++(S++[32,123])))=H at *;have hHne:H≠[]:=by rw[←hH];exact lnT_pos _ _
 have hadd:addT none H=some H:=by rw[←addT_ne none hHne];rfl
 rw[hadd]at hL;have hB:=fun a b i S' h1 h2 h3=>pr1_fun a b i H 1 c S' hv hk h1 h2 h3 (by omega) (by omega);generalize hX:lnsT 1 (fldL c.flds++c.blks.flatMap blkL)=X at *;have hE:=fun i S' h=>line_at i (some (H++X)) 0 [bs [125]] (by omega) (by rw[f125,Option.getD_some,List.length_append];omega) (by simp) S' h;rw[f125,addT_some]at hE;generalize hY:lnT 0 (0,[125])=Y at *;have hT:=fun i S' h=>bstr_fun i (some (H++(X++Y))) ((0:Nat):Int) (by simp;intro h;exact absurd h hHne) (by rw[Option.getD_some];simp only[List.length_append];omega) S' h;rw[Option.getD_some]at hT
 have seg:∀A B E Z:List V,(σ++[A,B,E]).set (σ.length+1) Z=σ++[A,Z,E]:=fun A B E Z=>by
  rw[List.set_append_right _ _ (by omega),show σ.length+1-σ.length=1 by omega];rfl
 have at1:∀A B E:List V,(σ++[A,B,E])[σ.length+1]? = some B:=fun A B E=>by
  rw[List.getElem?_append_right (by omega),show σ.length+1-σ.length=1 by omega];rfl
 have at2:∀A B E:List V,(σ++[A,B,E])[σ.length+1+1]? = some E:=fun A B E=>by
  rw[List.getElem?_append_right (by omega),show σ.length+1+1-σ.length=2 by omega];rfl
 have seg2:∀A B E Z:List V,(σ++[A,B,E]).set (σ.length+1+1) Z=σ++[A,B,Z]:=fun A B E Z=>by
  rw[List.set_append_right _ _ (by omega),show σ.length+1+1-σ.length=2 by omega];rfl
 have at0:∀A B E:List V,(σ++[A,B,E])[σ.length]? = some A:=fun A B E=>by
  rw[List.getElem?_append_right (by omega),Nat.sub_self];rfl
 by_cases he:c.par=⟨#[]⟩
 ·have hS0:S=[]:=by rw[hS];unfold parT;rw[if_pos he]
  subst hS0;simp -dsimp -implicitDefEqProofs only[aw,V.copy,V.lend,V.cells,V.boxable,over,bldV,rowsOf,plains,V.plain,Nat.reduceLeDiff,eq_self,reduceIte,Nat.reduceBEq,Nat.reduceLT,Nat.reduceEqDiff,Nat.reduceAdd,seg2,at0,at2,decide_eq_true he];refine fun_to (hL _ _ (at1 _ _ _)) ?_;rw[seg];simp -dsimp -implicitDefEqProofs only[aw,V.copy,V.lend,Nat.reduceLeDiff,eq_self,reduceIte,Nat.reduceBEq,Nat.reduceLT,Nat.reduceEqDiff,at2];refine fun_to (inside_fun (σ.length+1) H (H++X) 0 (by omega) _ _ _ (at1 _ _ _) ?_) ?_
  ·rw[seg,seg];have:=hB σ.length (σ.length+1+1) (σ.length+1) (σ++[[.d (dstr c.name),.d (dstr c.par),.d (.sl (c.flds.map dfl)),.d (.sl (c.blks.map dbk))],pgc (σ.length+1) (some H) ((0+1:Nat):Int),[.ptr (σ.length+1) 0]]) (at0 _ _ _) (at2 _ _ _) (at1 _ _ _);rw[seg]at this;exact this
  rw[seg];simp -dsimp -implicitDefEqProofs only[aw,V.copy,V.lend,V.cells,rowsOf,plains,V.plain,Nat.reduceLeDiff,eq_self,reduceIte,Nat.reduceBEq,Nat.reduceLT,Nat.reduceEqDiff,at2];refine fun_to (hE _ _ (at1 _ _ _)) ?_;rw[seg];simp -dsimp -implicitDefEqProofs only[aw,V.copy,V.lend,Nat.reduceLeDiff,eq_self,reduceIte,Nat.reduceBEq,Nat.reduceLT,Nat.reduceEqDiff,at2];refine fun_to (hT _ _ (at1 _ _ _)) ?_;rw[seg];simp -dsimp -implicitDefEqProofs only[aw,V.copy,eq_self,reduceIte,Nat.reduceBEq,Nat.reduceLT,Nat.reduceEqDiff];exact fin_ret hb rfl rfl List.take_left ⟨rfl,rfl⟩
 ·have hS0:S=[32,101,120,116,101,110,100,115,32]++strT c.par:=by rw[hS];unfold parT;rw[if_neg he]
  have hpl:=name_len (hn.par.resolve_left he);have hps:c.par.size=c.par.data.toList.length:=rfl
  have hs:binV .add (V.d (dstr ⟨#[32,101,120,116,101,110,100,115,32]⟩)) (V.d (dstr c.par))=some (V.d (dstr (bs S))):=by
   have:=add_bs [32,101,120,116,101,110,100,115,32] (strT c.par) (by simp[strT];omega);rw[←hS0]at this;unfold strT at this;rw[bs_self]at this;exact this
  simp -dsimp -implicitDefEqProofs only[aw,V.copy,V.lend,V.cells,V.boxable,over,bldV,rowsOf,plains,V.plain,Nat.reduceLeDiff,eq_self,reduceIte,Nat.reduceBEq,Nat.reduceLT,Nat.reduceEqDiff,Nat.reduceAdd,seg2,at0,at2,decide_eq_false he,hs];refine fun_to (hL _ _ (at1 _ _ _)) ?_;rw[seg];simp -dsimp -implicitDefEqProofs only[aw,V.copy,V.lend,Nat.reduceLeDiff,eq_self,reduceIte,Nat.reduceBEq,Nat.reduceLT,Nat.reduceEqDiff,at2];refine fun_to (inside_fun (σ.length+1) H (H++X) 0 (by omega) _ _ _ (at1 _ _ _) ?_) ?_
  ·rw[seg,seg];have:=hB σ.length (σ.length+1+1) (σ.length+1) (σ++[[.d (dstr c.name),.d (dstr c.par),.d (.sl (c.flds.map dfl)),.d (.sl (c.blks.map dbk))],pgc (σ.length+1) (some H) ((0+1:Nat):Int),[.ptr (σ.length+1) 0]]) (at0 _ _ _) (at2 _ _ _) (at1 _ _ _);rw[seg]at this;exact this
  rw[seg];simp -dsimp -implicitDefEqProofs only[aw,V.copy,V.lend,V.cells,rowsOf,plains,V.plain,Nat.reduceLeDiff,eq_self,reduceIte,Nat.reduceBEq,Nat.reduceLT,Nat.reduceEqDiff,at2];refine fun_to (hE _ _ (at1 _ _ _)) ?_;rw[seg];simp -dsimp -implicitDefEqProofs only[aw,V.copy,V.lend,Nat.reduceLeDiff,eq_self,reduceIte,Nat.reduceBEq,Nat.reduceLT,Nat.reduceEqDiff,at2];refine fun_to (hT _ _ (at1 _ _ _)) ?_;rw[seg];simp -dsimp -implicitDefEqProofs only[aw,V.copy,eq_self,reduceIte,Nat.reduceBEq,Nat.reduceLT,Nat.reduceEqDiff];exact fin_ret hb rfl rfl List.take_left ⟨rfl,rfl⟩
def srcT(l:List Kl):Bs:=if l.all printB=true then sepT [10] (l.map clsT)else[]
theorem bs_eq_nil(l:Bs):(bs l=⟨#[]⟩)=(l=[]):=by
 refine propext ⟨fun h=>?_,fun h=>by rw[h];rfl⟩;have:=congrArg (fun s:ByteArray=>s.data.toList) h;simp only[bs_list]at this;exact this
set_option maxHeartbeats 4000000 in
theorem source_fun(l:List Kl)(hl:l.length≤6)(h:∀c,c∈l→kbig c≤1100000∧c.flds.length≤1200000∧c.blks.length≤1200000)(σ:List (List V)):
 Fun G 21 [.d (.sl (l.map fun c=>[dstr c.name,dstr c.par,.sl (c.flds.map dfl),.sl (c.blks.map dbk)]))] σ (RetV (.d (dstr (bs (srcT l)))) σ):=by
 refine fun_code Tryz.func21 k21 rfl fun hb hw=>?_;unfold c21 srcT;simp -dsimp -implicitDefEqProofs only[aw,slots0,V.copy,V.lend,eq_self,reduceIte,reduceCtorEq,Nat.reduceBEq,Nat.reduceLT,Nat.reduceEqDiff];refine awp_forK [3,7,8,9] (fun(j:Nat) ρ σ'=>ρ=[(3,.own 9 1 (((l.take j).map fun c=>bs (clsT c)).map fun s=>[dstr s])),(7,.d (.sl (l.map fun c=>[dstr c.name,dstr c.par,.sl (c.flds.map dfl),.sl (c.blks.map dbk)]))),(8,vint .i64 l.length),(9,vint .i64 j)]∧σ'=σ∧l.all printB=(l.drop j).all printB) l.length ⟨rfl,rfl,rfl⟩ ?_ _;rintro j ρ' σ' hj ⟨rfl,rfl,hI⟩;by_cases hlt:j<l.length
 ·have wj:=wrap_nat hlt (show l.length≤9223372036854775807 by omega);have e1:(l.map fun c=>[dstr c.name,dstr c.par,.sl (c.flds.map dfl),.sl (c.blks.map dbk)])[j]? = some [dstr l[j].name,dstr l[j].par,.sl (l[j].flds.map dfl),.sl (l[j].blks.map dbk)]:=by rw[List.getElem?_map,List.getElem?_eq_getElem hlt];rfl
  obtain⟨h1,h2,h3⟩:=h _ (List.getElem_mem hlt);have hP:=fun σ=>print_fun l[j] h1 h2 h3 σ;rw[List.drop_eq_getElem_cons hlt,List.all_cons]at hI;simp -dsimp -implicitDefEqProofs only[aw,V.copy,V.lend,V.lend1,V.cells,V.boxable,over,Nat.reduceLeDiff,eq_self,reduceIte,Nat.reduceBEq,Nat.reduceLT,Nat.reduceEqDiff,Nat.reduceAdd,Int.ofNat_lt,hlt,decide_true,e1];refine fun_ret (hP _) ?_;cases hp:printB l[j]with
  | false=>
   have e0:printT l[j]=[]:=by unfold printT;rw[hp,if_neg (by simp)]
   rw[hp,Bool.false_and]at hI;have hd:decide (bs ([]:Bs)=⟨#[]⟩)=true:=rfl;rw[e0,hI,if_neg (by simp)];simp -dsimp -implicitDefEqProofs only[aw,V.copy,V.lend,eq_self,reduceIte,Nat.reduceBEq,Nat.reduceLT,Nat.reduceEqDiff,hd];first|exact fin_ret hb rfl rfl List.take_length ⟨rfl,rfl⟩|exact fin_ret hb rfl rfl List.take_left ⟨rfl,rfl⟩|(trace_state;fail "fin")
  | true=>
   have e0:printT l[j]=clsT l[j]:=by unfold printT;rw[hp,if_pos rfl]
   rw[hp,Bool.true_and]at hI;have hd:decide (bs (clsT l[j])=⟨#[]⟩)=false:=decide_eq_false (by rw[bs_eq_nil];exact clsT_ne _);rw[e0];simp -dsimp -implicitDefEqProofs only[aw,V.copy,V.lend,V.cells,rowsOf,plains,V.plain,eq_self,reduceIte,Nat.reduceBEq,Nat.reduceLT,Nat.reduceEqDiff,hd];refine onT_intro (by first|omega|(simp only[List.length_take];omega)) ?_;simp -dsimp -implicitDefEqProofs only[aw,V.copy,V.lend,eq_self,reduceIte,Nat.reduceBEq,Nat.reduceLT,Nat.reduceEqDiff,wj];exact⟨hlt,Nxt.drop (l:=[_]) (Nat.le_refl _) hb (by simp[slotsBelow,V.under]) ⟨by rw[List.take_succ_eq_append_getElem hlt,List.map_append,List.map_append];rfl,rfl,hI⟩⟩
 ·rw[List.drop_eq_nil_of_le (by omega),List.all_nil]at hI;rw[hI,if_pos rfl];simp -dsimp -implicitDefEqProofs only[aw,V.copy,V.lend,eq_self,reduceIte,Nat.reduceBEq,Nat.reduceLT,Nat.reduceEqDiff,Int.ofNat_lt,hlt,decide_false];rw[List.take_of_length_le (by omega)]
  have hm:(l.map fun c=>bs (clsT c)).map (·.data.toList)=l.map clsT:=by
   rw[List.map_map];exact List.map_congr_left fun c _=>bs_list _
  have hsl:=sep_len [10] 1000000000 (l.map clsT) fun a ha=>by
   obtain⟨c,hc,rfl⟩:=List.mem_map.1 ha;exact cls_len ((printB_iff c).1 (List.all_eq_true.1 hI c hc)) (h c hc).1
  rw[List.length_map]at hsl
  have hj:=fun_joins [10] (l.map fun c=>bs (clsT c)) (by rw[List.length_map];omega) (by
   rw[join_sep,hm];refine Nat.le_trans hsl ?_;have:l.length*(1000000000+([10]:Bs).length)≤6*(1000000000+([10]:Bs).length):=Nat.mul_le_mul_right _ hl;exact Nat.le_trans this (by decide))
  rw[join_sep,hm]at hj;simp only[dstrs]at hj;refine fun_ret (hj _) ?_;simp -dsimp -implicitDefEqProofs only[aw,V.copy,eq_self,reduceIte,Nat.reduceBEq,Nat.reduceLT,Nat.reduceEqDiff];first|exact fin_ret hb rfl rfl List.take_length ⟨rfl,rfl⟩|exact fin_ret hb rfl rfl List.take_left ⟨rfl,rfl⟩|(trace_state;fail "fin")
def exE:Ex:=.mk 17 0 ⟨#[]⟩ [.mk 2 0 ⟨#[107,105,110,100]⟩ [],.mk 1 3 ⟨#[]⟩ []]
def exI:It:=.mk 1 exE ⟨#[]⟩ ⟨#[]⟩ [] [] [] [] []
def exK:Kl:=⟨⟨#[112]⟩,⟨#[98,97,115,101]⟩,[⟨⟨#[107,105,110,100]⟩,2,0,1,0⟩],[(⟨#[108,101,103,97,108]⟩,[exI])]⟩
def exW:List Wt:=[⟨0,0,2,true⟩,⟨1,3,6,false⟩]
theorem ex_wts:bs (wtsT exW)=⟨#[48,32,58,61,32,50,44,32,49,32,46,46,32,51,32,58,47,32,54]⟩:=by kernel_rfl
theorem ex_print:bs (printT exK)=⟨#[99,108,97,115,115,32,112,32,101,120,116,101,110,100,115,32,98,97,115,101,32,123,10,32,32,32,32,114,97,110,100,32,107,105,110,100,32,58,32,50,59,10,32,32,32,32,99,111,110,115,116,114,97,105,110,116,32,108,101,103,97,108,32,123,10,32,32,32,32,32,32,32,32,107,105,110,100,32,60,32,51,59,10,32,32,32,32,125,10,125,10]⟩:=by kernel_rfl
set_option maxHeartbeats 4000000 in
theorem awake_fun(σ:List (List V)):Fun G 12 [] σ (RetV (vbool true) σ):=by
 have f1:=fun σ=>ctWeights_fun exW (fun w hw=>by
  rcases List.mem_cons.1 hw with rfl|hw
  ·exact⟨by decide,by decide,by decide,by decide,by decide,by decide⟩
  ·rw[List.mem_singleton.1 hw];exact⟨by decide,by decide,by decide,by decide,by decide,by decide⟩) (by decide) σ
 have f2:=fun σ=>print_fun exK (by decide) (by decide) (by decide) σ;rw[ex_wts]at f1;rw[ex_print]at f2;refine fun_code Tryz.func12 k12 rfl fun hb hw=>?_;unfold c12;simp -dsimp -implicitDefEqProofs only[aw,slots0,V.copy,V.lend,V.cells,V.boxable,over,bldV,rowsOf,plains,V.plain,Nat.reduceLeDiff,eq_self,reduceIte,Nat.reduceBEq,Nat.reduceLT,Nat.reduceEqDiff,Nat.reduceAdd];refine fun_ret (f1 _) ?_;simp -dsimp -implicitDefEqProofs only[aw,V.copy,V.lend,V.lend1,Nat.reduceLeDiff,eq_self,reduceIte,Nat.reduceLT,Nat.reduceEqDiff,Nat.reduceAdd,decide_true];refine fun_ret (f2 _) ?_;simp -dsimp -implicitDefEqProofs only[aw,V.copy,cond_true,eq_self,reduceIte,reduceCtorEq,Nat.reduceBEq,Nat.reduceLT,Nat.reduceEqDiff,decide_true];first|exact fin_ret hb rfl rfl List.take_length ⟨rfl,rfl⟩|exact fin_ret hb rfl rfl List.take_left ⟨rfl,rfl⟩|(trace_state;fail "fin")
abbrev dkl(c:Kl):List D:=[dstr c.name,dstr c.par,.sl (c.flds.map dfl),.sl (c.blks.map dbk)]
theorem mn_lit(a b:Nat):mxV false (.d (.lit (.int .i64 (a:Int)))) (.d (.lit (.int .i64 (b:Int))))=some (vint .i64 ((min a b:Nat):Int)):=by
 have h:(if(b:Int)<(a:Int)then(b:Int)else(a:Int))=((min a b:Nat):Int):=by split<;>omega
 unfold mxV;simp only[if_true,Bool.false_eq_true,if_false,h]
theorem sub_take(k:Nat)(rows:List (List D))(m:Nat)(hm:m≤rows.length)(h:rows.all (fun r=>r.length==k)=true):subV false k (.d (.sl rows)) none (some (vint .i64 (m:Int)))=some (.d (.sl (rows.take m))):=by
 simp[subV,rowsV,boundV,hm,h]
def KlsOk(l:List Kl):Prop:=∀c,c∈l→kbig c≤1100000∧c.flds.length≤1200000∧c.blks.length≤1200000
end Go.Proofs.YtcbahpllcfbkmaaGreatDoor
