import Derived.Test.YtcbahpllcfbkmaaGreatDoorCw7
set_option linter.unusedVariables false
set_option linter.unusedSimpArgs false
set_option linter.unusedSectionVars false
namespace Go.Proofs.YtcbahpllcfbkmaaGreatDoor
open Go.RowKit
def fldL(l:List Fl):List Ln:=l.map fun f=>(0,fldT f)
theorem fldL_take(l:List Fl){j:Nat}(h:j<l.length):fldL (l.take (j+1))=fldL (l.take j)++[(0,fldT l[j])]:=by
 unfold fldL;rw[List.take_succ_eq_append_getElem h,List.map_append];rfl
theorem blkL_take(l:List Bk){j:Nat}(h:j<l.length):(l.take (j+1)).flatMap blkL=(l.take j).flatMap blkL++blkL l[j]:=by
 rw[List.take_succ_eq_append_getElem h,List.flatMap_append];simp
theorem lnsT_mono(k:Nat){A B C:List Ln}(h:A++B=C):(lnsT k A).length≤(lnsT k C).length:=by
 rw[←h,lnsT_app,List.length_append];omega
theorem fldL_le(k:Nat)(l:List Fl)(j:Nat):(lnsT k (fldL (l.take j))).length≤(lnsT k (fldL l)).length:=
 lnsT_mono k (B:=fldL (l.drop j)) (by unfold fldL;rw[←List.map_append,List.take_append_drop])
theorem blkL_le(k:Nat)(l:List Bk)(j:Nat):(lnsT k ((l.take j).flatMap blkL)).length≤(lnsT k (l.flatMap blkL)).length:=
 lnsT_mono k (B:=(l.drop j).flatMap blkL) (by rw[←List.flatMap_append,List.take_append_drop])
def kbig(c:Kl):Nat:=(c.blks.map fun b=>ibigs b.2).sum
theorem kbig_mem{c:Kl}{b:Bk}(h:b∈c.blks):ibigs b.2≤kbig c:=by
 unfold kbig;generalize c.blks=l at h
 induction l with
 | nil=>cases h
 | cons a r ih=>
  rw[List.map_cons,List.sum_cons];rcases List.mem_cons.1 h with rfl|h
  ·omega
  ·have:=ih h;omega
structure KlV(c:Kl):Prop where
 cls:klsE c=0
 its:∀b,b∈c.blks→validI b.2=0
def printB(c:Kl):Bool:=c.blks.all (fun b=>decide (validI b.2=0))&&decide (klsE c=0)
theorem printB_iff(c:Kl):printB c=true↔KlV c:=by
 unfold printB;rw[Bool.and_eq_true,List.all_eq_true,decide_eq_true_eq];exact⟨fun h=>⟨h.2,fun b hb=>of_decide_eq_true (h.1 b hb)⟩,fun h=>⟨fun b hb=>decide_eq_true (h.its b hb),h.cls⟩⟩
theorem flds_zero{l:List Fl}(h:fldsE l=0):∀f,f∈l→fldE f=0:=by
 induction l with
 | nil=>intro f hf;cases hf
 | cons a r ih=>
  rw[fldsE]at h;by_cases h0:fldE a=0
  ·rw[if_neg (by simp[h0])]at h;intro f hf;rcases List.mem_cons.1 hf with rfl|hf
   ·exact h0
   ·exact ih h f hf
  ·rw[if_pos h0]at h;exact absurd h h0
theorem idx_neg:∀(l:List Bk) (k:Int),0≤k→¬0≤idxB l k→∀b,b∈l→nameB b.1=true
 | [],_,_,_,b,hb=>by cases hb
 | a::r,k,hk,h,b,hb=>by
  rw[idxB]at h;cases hn:nameB a.1 with
  | false=>rw[hn,if_pos rfl]at h;exact absurd hk h
  | true=>
   rw[hn,if_neg (by simp)]at h;rcases List.mem_cons.1 hb with rfl|hb
   ·exact hn
   ·exact idx_neg r (k+1) (by omega) h b hb
structure KlN(c:Kl):Prop where
 nm:nameB c.name=true
 par:c.par=⟨#[]⟩∨nameB c.par=true
 fl:c.flds.length≤16
 bl:c.blks.length≤16
 fv:∀f,f∈c.flds→FlV f
 bn:∀b,b∈c.blks→nameB b.1=true
theorem kln_of{c:Kl}(h:klsE c=0):KlN c:=by
 unfold klsE at h;by_cases h1:nameB c.name=false∨(c.par≠⟨#[]⟩∧nameB c.par=false)
 ·rw[if_pos h1]at h;omega
 rw[if_neg h1]at h;by_cases h2:16<c.flds.length∨16<c.blks.length
 ·rw[if_pos h2]at h;omega
 rw[if_neg h2]at h;by_cases h3:fldsE c.flds=0;case neg=>rw[if_pos h3]at h;exact absurd h h3
 rw[if_neg (by simp[h3])]at h;by_cases h4:0≤idxB c.blks 0
 ·rw[if_pos h4]at h;omega
 refine⟨?_,?_,by omega,by omega,fun f hf=>flv_of (flds_zero h3 f hf),idx_neg _ 0 (Int.le_refl _) h4⟩
 ·cases hn:nameB c.name with
  | true=>rfl
  | false=>exact absurd (.inl hn) h1
 ·by_cases hp:c.par=⟨#[]⟩
  ·exact .inl hp
  ·refine .inr ?_;cases hn:nameB c.par with
   | true=>rfl
   | false=>exact absurd (.inr ⟨hp,hn⟩) h1
theorem flds_len(k:Nat):∀l:List Fl,(∀f,f∈l→FlV f)→(lnsT k (fldL l)).length≤l.length*(4*k+61)
 | [],_=>by simp[fldL,lnsT]
 | f::r,h=>by
  have h1:=fldT_len (h f (by simp));have h2:=flds_len k r fun g hg=>h g (by simp[hg]);have e:fldL (f::r)=[(0,fldT f)]++fldL r:=rfl;rw[e,lnsT_app,List.length_append,lnsT_cons,lnsT_nil,List.append_nil,lnT_len,List.length_cons,Nat.add_mul];simp only;omega
theorem blks_len(k:Nat):∀l:List Bk,(∀b,b∈l→nameB b.1=true∧rvl b.2 0=0)→(lnsT k (l.flatMap blkL)).length≤l.length*(8*k+40)+(l.map fun b=>ibigs b.2).sum*(12*(k+1)+172)
 | [],_=>by simp[lnsT]
 | b::r,h=>by
  obtain⟨n1,n2⟩:=h b (by simp);have h1:=name_len n1;have h2:=lns_len (k+1) b.2 0 n2;have h3:=blks_len k r fun g hg=>h g (by simp[hg]);have e:(b::r).flatMap blkL=blkL b++r.flatMap blkL:=rfl;have hb:blkL b=(0,[99,111,110,115,116,114,97,105,110,116,32]++(strT b.1++[32,123]))::(upL (lns b.2)++[(0,[125])]):=rfl;rw[e,lnsT_app,hb];simp only[lnsT_cons,lnsT_app,lnsT_up,lnsT_nil,List.length_append,lnT_len,List.length_cons,List.length_nil,List.map_cons,List.sum_cons,Nat.add_mul,strT,Nat.add_zero]at h2 ⊢;omega
theorem cls_len{c:Kl}(h:KlV c)(hk:kbig c≤1100000):(clsT c).length≤1000000000:=by
 have hn:=kln_of h.cls;have h1:=name_len hn.nm
 have h2:(parT c.par).length≤30:=by
  unfold parT strT;split
  ·simp
  ·rename_i hne;have:=name_len (hn.par.resolve_left hne);simp only[List.length_append,List.length_cons,List.length_nil];omega
 have h3:=flds_len 1 c.flds hn.fv;have h4:(lnsT 1 (c.blks.flatMap blkL)).length≤c.blks.length*(8*1+40)+kbig c*(12*(1+1)+172):=blks_len 1 c.blks fun b hb=>⟨hn.bn b hb,valid_rvl (h.its b hb)⟩
 have h5:kbig c*(12*(1+1)+172)≤1100000*(12*(1+1)+172):=Nat.mul_le_mul_right _ hk;have h6:c.flds.length*(4*1+61)≤16*(4*1+61):=Nat.mul_le_mul_right _ hn.fl;have h7:c.blks.length*(8*1+40)≤16*(8*1+40):=Nat.mul_le_mul_right _ hn.bl;unfold fldL at h3;unfold clsT clsL;simp only[Nat.zero_add,lnsT_cons,lnsT_app,lnsT_up,lnsT_nil,List.length_append,lnT_len,List.length_cons,List.length_nil,strT];omega
theorem dfl_eq(f:Fl):dfl f=[dstr f.name,dint f.width,dint f.size,dint f.mode,dint f.init]:=rfl
theorem dbk_eq(b:Bk):dbk b=[dstr b.1,ditl b.2]:=rfl
theorem printable_fun(c:Kl)(hk:kbig c≤1100000)(hf:c.flds.length≤1200000)(hbk:c.blks.length≤1200000)(σ:List (List V)):Fun G 27 [vkl c] σ (RetV (vbool (printB c)) σ):=by
 refine fun_code Tryz.func27 k27 rfl fun hb hw=>?_;unfold c27;simp -dsimp -implicitDefEqProofs only[aw,slots0,V.copy,V.cells,V.boxable,Nat.reduceLeDiff,eq_self,reduceIte,reduceCtorEq,Nat.reduceBEq,Nat.reduceLT,Nat.reduceEqDiff,Nat.reduceAdd]
 refine awp_forK [1,6,7,8] (fun(j:Nat) ρ σ'=>ρ=[(1,.ptr σ.length 0),(6,.d (.sl (c.blks.map dbk))),(7,vint .i64 c.blks.length),(8,vint .i64 j)]∧σ'=σ++[[.d (dstr c.name),.d (dstr c.par),.d (.sl (c.flds.map dfl)),.d (.sl (c.blks.map dbk))]]∧
  printB c=((c.blks.drop j).all (fun b=>decide (validI b.2=0))&&decide (klsE c=0))) c.blks.length ⟨rfl,rfl,rfl⟩ ?_ _
 rintro j ρ' σ' hj ⟨rfl,rfl,hI⟩;by_cases hlt:j<c.blks.length
 ·have wj:=wrap_nat hlt (show c.blks.length≤9223372036854775807 by omega);have e1:(c.blks.map dbk)[j]? = some (dbk c.blks[j]):=by rw[List.getElem?_map,List.getElem?_eq_getElem hlt];rfl
  have hm:=kbig_mem (List.getElem_mem hlt);rw[List.drop_eq_getElem_cons hlt,List.all_cons]at hI;simp -dsimp -implicitDefEqProofs only[aw,V.copy,V.lend,V.cells,V.boxable,over,Nat.reduceLeDiff,eq_self,reduceIte,Nat.reduceBEq,Nat.reduceLT,Nat.reduceEqDiff,Nat.reduceAdd,Int.ofNat_lt,hlt,decide_true,e1,dbk_eq c.blks[j]];refine fun_ret (valid_item _ (by omega) _) ?_;by_cases h0:validI c.blks[j].2=0
  ·rw[decide_eq_true h0,Bool.true_and]at hI;simp -dsimp -implicitDefEqProofs only[aw,V.copy,eq_self,reduceIte,Nat.reduceBEq,Nat.reduceLT,Nat.reduceEqDiff,h0,decide_true,wj];exact⟨hlt,Nxt.drp1 (by simp) (boxesBelow_app hb rfl) (by simp[slotsBelow,V.under]) ⟨rfl,rfl,hI⟩⟩
  ·rw[decide_eq_false h0,Bool.false_and,Bool.false_and]at hI;rw[hI];simp -dsimp -implicitDefEqProofs only[aw,V.copy,eq_self,reduceIte,Nat.reduceBEq,Nat.reduceLT,Nat.reduceEqDiff,decide_eq_false h0];first|exact fin_ret hb rfl rfl List.take_length ⟨rfl,rfl⟩|exact fin_ret hb rfl rfl List.take_left ⟨rfl,rfl⟩|(trace_state;fail "fin")
 ·rw[List.drop_eq_nil_of_le (by omega),List.all_nil,Bool.true_and]at hI;rw[hI];simp -dsimp -implicitDefEqProofs only[aw,V.copy,V.lend,V.lend1,Nat.reduceLeDiff,eq_self,reduceIte,Nat.reduceBEq,Nat.reduceLT,Nat.reduceEqDiff,Nat.reduceAdd,Int.ofNat_lt,hlt,decide_false];refine fun_ret (clvalid_fun c hf hbk _) ?_;simp -dsimp -implicitDefEqProofs only[aw,V.copy,eq_self,reduceIte,Nat.reduceBEq,Nat.reduceLT,Nat.reduceEqDiff];first|exact fin_ret hb rfl rfl List.take_length ⟨rfl,rfl⟩|exact fin_ret hb rfl rfl List.take_left ⟨rfl,rfl⟩|(trace_state;fail "fin")
set_option maxHeartbeats 8000000 in
theorem pr1_fun(a b i:Nat)(u:Bs)(k:Nat)(c:Kl)(σ:List (List V))(hv:KlV c)(hk:kbig c≤1100000)(hc:σ[a]? = some [.d (dstr c.name),.d (dstr c.par),.d (.sl (c.flds.map dfl)),.d (.sl (c.blks.map dbk))])(hb:σ[b]? = some [.ptr i 0])(hp:σ[i]? = some (pgc i (some u) k))(hk9:k≤99)
 (hl:u.length+(lnsT k (fldL c.flds++c.blks.flatMap blkL)).length≤140737488355328):
 Fun G 30 [.ptr a 0,.ptr b 0] σ (fun o σ'=>o=.ret (.tup [])∧σ'=σ.set i (pgc i (some (u++lnsT k (fldL c.flds++c.blks.flatMap blkL))) k)):=by
 have hn:=kln_of hv.cls;have hi:i<σ.length:=(List.getElem?_eq_some_iff.1 hp).1
 have hbi:b≠i:=fun e=>by
  rw[e,hp]at hb;simp[pgc,pgu]at hb
 have hai:a≠i:=fun e=>by
  rw[e,hp]at hc;simp[pgc,pgu]at hc
 have gb:∀X L,(σ.set i X++L)[b]? = some [.ptr i 0]:=fun X L=>by
  rw[List.getElem?_append_left (by rw[List.length_set];exact(List.getElem?_eq_some_iff.1 hb).1),List.getElem?_set_ne (Ne.symm hbi)];exact hb
 have gb0:∀X,(σ.set i X)[b]? = some [.ptr i 0]:=fun X=>by have:=gb X [];rwa[List.append_nil]at this
 have ga0:∀X,(σ.set i X)[a]? = some [.d (dstr c.name),.d (dstr c.par),.d (.sl (c.flds.map dfl)),.d (.sl (c.blks.map dbk))]:=fun X=>by
  rw[List.getElem?_set_ne (Ne.symm hai)];exact hc
 have bbt:∀t,boxesBelow σ.length σ=true→boxesBelow (σ.set i (pgc i t k)).length (σ.set i (pgc i t k))=true:=fun t hb=>by
  rw[List.length_set];exact bbset hb (pg_under hi)
 rw[lnsT_app,List.length_append]at hl;rw[lnsT_app];have hf:=fun j=>fldL_le k c.flds j;have hB:=fun j=>blkL_le k c.blks j;refine fun_code Tryz.func30 k30 rfl fun hb' hw=>?_;unfold c30;simp -dsimp -implicitDefEqProofs only[aw,slots0,V.copy,Nat.reduceLeDiff,eq_self,reduceIte,reduceCtorEq,Nat.reduceBEq,Nat.reduceLT,Nat.reduceEqDiff,Nat.reduceAdd,hc];refine awp_forK [0,1,7,8,9] (fun(j:Nat) ρ σ'=>ρ=[(0,.ptr a 0),(1,.ptr b 0),(7,.d (.sl (c.flds.map dfl))),(8,vint .i64 c.flds.length),(9,vint .i64 j)]∧σ'=σ.set i (pgc i (some (u++lnsT k (fldL (c.flds.take j)))) k)) c.flds.length ⟨rfl,by rw[List.take_zero];show σ=σ.set i (pgc i (some (u++[])) k);rw[List.append_nil,set_id hp]⟩ ?_ _;rintro j ρ' σ' hj ⟨rfl,rfl⟩;by_cases hlt:j<c.flds.length
 ·have wj:=wrap_nat hlt (show c.flds.length≤9223372036854775807 by have:=hn.fl;omega);have e1:(c.flds.map dfl)[j]? = some (dfl c.flds[j]):=by rw[List.getElem?_map,List.getElem?_eq_getElem hlt];rfl
  have hfj:=hf (j+1);rw[fldL_take c.flds hlt,lnsT_app,lnsT_cons,lnsT_nil,List.append_nil,List.length_append]at hfj;have hF:=fun S h=>field_fun' i (some (u++lnsT k (fldL (c.flds.take j)))) k c.flds[j] S ⟨h,by omega⟩ (hn.fv _ (List.getElem_mem hlt)) (by rw[Option.getD_some,List.length_append];omega);rw[fldL_take c.flds hlt,lnsT_app,lnsT_cons,lnsT_nil,List.append_nil];simp only[dfl_eq c.flds[j],List.map_cons,List.map_nil,addT_some]at hF;generalize lnsT k (fldL (c.flds.take j))=Y at *;generalize lnT k (0,fldT c.flds[j])=Z at *;simp -dsimp -implicitDefEqProofs only[aw,V.copy,V.lend,V.lend1,V.cells,V.boxable,over,Nat.reduceLeDiff,eq_self,reduceIte,reduceCtorEq,Nat.reduceBEq,Nat.reduceLT,Nat.reduceEqDiff,Nat.reduceAdd,Int.ofNat_lt,hlt,decide_true,e1,dfl_eq c.flds[j],get_set_new0,set_set_new0,List.length_set,gb];refine fun_to (hF _ (get_set_same σ _ i _ hi)) ?_;rw[set_set_same _ _ _ _ _ hi]
  simp -dsimp -implicitDefEqProofs only[aw,V.copy,eq_self,reduceIte,reduceCtorEq,Nat.reduceBEq,Nat.reduceLT,Nat.reduceEqDiff,wj];exact⟨hlt,Nxt.drop (l:=[_]) (by simp) (bbt _ hb') (by simp[slotsBelow,V.under];exact⟨(List.getElem?_eq_some_iff.1 hc).1,(List.getElem?_eq_some_iff.1 hb).1⟩) ⟨rfl,rfl⟩⟩
 ·rw[List.take_of_length_le (show c.flds.length≤j by omega)];generalize hA:u++lnsT k (fldL c.flds)=A at *;have hAl:A.length=u.length+(lnsT k (fldL c.flds)).length:=by rw[←hA,List.length_append]
  simp -dsimp -implicitDefEqProofs only[aw,V.copy,Nat.reduceLeDiff,eq_self,reduceIte,reduceCtorEq,Nat.reduceBEq,Nat.reduceLT,Nat.reduceEqDiff,Nat.reduceAdd,Int.ofNat_lt,hlt,decide_false,ga0];refine awp_forK [1,18,19,20] (fun(j:Nat) ρ σ'=>ρ=[(1,.ptr b 0),(18,.d (.sl (c.blks.map dbk))),(19,vint .i64 c.blks.length),(20,vint .i64 j)]∧σ'=σ.set i (pgc i (some (A++lnsT k ((c.blks.take j).flatMap blkL))) k)) c.blks.length ⟨rfl,by rw[List.take_zero];show _=σ.set i (pgc i (some (A++[])) k);rw[List.append_nil]⟩ ?_ _;rintro j ρ' σ' hj ⟨rfl,rfl⟩;by_cases hlt:j<c.blks.length
  ·have wj:=wrap_nat hlt (show c.blks.length≤9223372036854775807 by have:=hn.bl;omega);have e1:(c.blks.map dbk)[j]? = some (dbk c.blks[j]):=by rw[List.getElem?_map,List.getElem?_eq_getElem hlt];rfl
   have hBj:=hB (j+1);have hm:=kbig_mem (List.getElem_mem hlt);rw[blkL_take c.blks hlt,lnsT_app,List.length_append]at hBj;have hF:=fun S h=>block_fun' i (some (A++lnsT k ((c.blks.take j).flatMap blkL))) k c.blks[j] S (by omega) ⟨h,by omega⟩ hk9 (valid_rvl (hv.its _ (List.getElem_mem hlt))) (by rw[Option.getD_some,List.length_append];omega);rw[blkL_take c.blks hlt,lnsT_app];simp only[dbk_eq c.blks[j],List.map_cons,List.map_nil,addT_some]at hF;generalize lnsT k ((c.blks.take j).flatMap blkL)=Y at *;generalize lnsT k (blkL c.blks[j])=Z at *;simp -dsimp -implicitDefEqProofs only[aw,V.copy,V.lend,V.lend1,V.cells,V.boxable,over,Nat.reduceLeDiff,eq_self,reduceIte,Nat.reduceBEq,Nat.reduceLT,Nat.reduceEqDiff,Nat.reduceAdd,Int.ofNat_lt,hlt,decide_true,e1,dbk_eq c.blks[j],get_set_new0,set_set_new0,List.length_set,gb];refine fun_to (hF _ (get_set_same σ _ i _ hi)) ?_;rw[set_set_same _ _ _ _ _ hi]
   simp -dsimp -implicitDefEqProofs only[aw,V.copy,eq_self,reduceIte,Nat.reduceBEq,Nat.reduceLT,Nat.reduceEqDiff,wj];exact⟨hlt,Nxt.drop (l:=[_]) (by simp) (bbt _ hb') (by simp[slotsBelow,V.under];exact(List.getElem?_eq_some_iff.1 hb).1) ⟨rfl,rfl⟩⟩
  ·simp -dsimp -implicitDefEqProofs only[aw,eq_self,reduceIte,Nat.reduceBEq,Nat.reduceLT,Nat.reduceEqDiff,Int.ofNat_lt,hlt,decide_false];rw[List.take_of_length_le (show c.blks.length≤j by omega),←List.append_assoc,hA];exact fin_en (v:=.tup []) (k:=σ.length) (Nat.le_refl _) (List.take_of_length_le (by simp)) (bbset hb' (pg_under hi)) rfl rfl ⟨rfl,rfl⟩
end Go.Proofs.YtcbahpllcfbkmaaGreatDoor
