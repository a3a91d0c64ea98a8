import Derived.Test.YtcbahpllcfbkmaaGreatDoorCw7
set_option linter.unusedVariables false
set_option linter.unusedSimpArgs false
set_option linter.unusedSectionVars false
namespace Go.Proofs.YtcbahpllcfbkmaaGreatDoor
open Go.RowKit
def fldL(l:List Fl):List Ln:=l.map fun f=>(0,fldT f)
theorem fldL_take(l:List Fl){j:Nat}(h:j<l.length):fldL (l.take (j+1))=fldL (l.take j)++[(0,fldT l[j])]:=by
 unfold fldL;rw[List.take_succ_eq_append_getElem h,List.map_append];rfl
theorem blkL_take(l:List Bk){j:Nat}(h:j<l.length):(l.take (j+1)).flatMap blkL=(l.take j).flatMap blkL++blkL l[j]:=by
 rw[List.take_succ_eq_append_getElem h,List.flatMap_append];simp
theorem lnsT_mono(k:Nat){A B C:List Ln}(h:A++B=C):(lnsT k A).length≤(lnsT k C).length:=by
 rw[←h,lnsT_app,List.length_append];omega
theorem fldL_le(k:Nat)(l:List Fl)(j:Nat):(lnsT k (fldL (l.take j))).length≤(lnsT k (fldL l)).length:=
 lnsT_mono k (B:=fldL (l.drop j)) (by unfold fldL;rw[←List.map_append,List.take_append_drop])
theorem blkL_le(k:Nat)(l:List Bk)(j:Nat):(lnsT k ((l.take j).flatMap blkL)).length≤(lnsT k (l.flatMap blkL)).length:=
 lnsT_mono k (B:=(l.drop j).flatMap blkL) (by rw[←List.flatMap_append,List.take_append_drop])
def kbig(c:Kl):Nat:=(c.blks.map fun b=>ibigs b.2).sum
theorem kbig_mem{c:Kl}{b:Bk}(h:b∈c.blks):ibigs b.2≤kbig c:=by
 unfold kbig;generalize c.blks=l at h
 induction l with
 | nil=>cases h
 | cons a r ih=>
  rw[List.map_cons,List.sum_cons];rcases List.mem_cons.1 h with rfl|h
  ·omega
  ·have:=ih h;omega
structure KlV(c:Kl):Prop where
 cls:klsE c=0
 its:∀b,b∈c.blks→validI b.2=0
def printB(c:Kl):Bool:=c.blks.all (fun b=>decide (validI b.2=0))&&decide (klsE c=0)
theorem printB_iff(c:Kl):printB c=true↔KlV c:=by
 unfold printB;rw[Bool.and_eq_true,List.all_eq_true,decide_eq_true_eq];exact⟨fun h=>⟨h.2,fun b hb=>of_decide_eq_true (h.1 b hb)⟩,fun h=>⟨fun b hb=>decide_eq_true (h.its b hb),h.cls⟩⟩
theorem flds_zero{l:List Fl}(h:fldsE l=0):∀f,f∈l→fldE f=0:=by
 induction l with
 | nil=>intro f hf;cases hf
 | cons a r ih=>
  rw[fldsE]at h;by_cases h0:fldE a=0
  ·rw[if_neg (by simp[h0])]at h;intro f hf;rcases List.mem_cons.1 hf with rfl|hf
   ·exact h0
   ·exact ih h f hf
  ·rw[if_pos h0]at h;exact absurd h h0
theorem idx_neg:∀(l:List Bk) (k:Int),0≤k→¬0≤idxB l k→∀b,b∈l→nameB b.1=true
 | [],_,_,_,b,hb=>by cases hb
 | a::r,k,hk,h,b,hb=>by
  rw[idxB]at h;cases hn:nameB a.1 with
  | false=>rw[hn,if_pos rfl]at h;exact absurd hk h
  | true=>
   rw[hn,if_neg (by simp)]at h;rcases List.mem_cons.1 hb with rfl|hb
   ·exact hn
   ·exact idx_neg r (k+1) (by omega) h b hb
structure KlN(c:Kl):Prop where
 nm:nameB c.name=true
 par:c.par=⟨#[]⟩∨nameB c.par=true
 fl:c.flds.length≤16
 bl:c.blks.length≤16
 fv:∀f,f∈c.flds→FlV f
 bn:∀b,b∈c.blks→nameB b.1=true
theorem kln_of{c:Kl}(h:klsE c=0):KlN c:=by
 unfold klsE at h;by_cases h1:nameB c.name=false∨(c.par≠⟨#[]⟩∧nameB c.par=false)
 ·rw[if_pos h1]at h;omega
 rw[if_neg h1]at h;by_cases h2:16<c.flds.length∨16<c.blks.length
 ·rw[if_pos h2]at h;omega
 rw[if_neg h2]at h;by_cases h3:fldsE c.flds=0;case neg=>rw[if_pos h3]at h;exact absurd h h3
 rw[if_neg (by simp[h3])]at h;by_cases h4:0≤idxB c.blks 0
 ·rw[if_pos h4]at h;omega
 refine⟨?_,?_,by omega,by omega,fun f hf=>flv_of (flds_zero h3 f hf),idx_neg _ 0 (Int.le_refl _) h4⟩
 ·cases hn:nameB c.name with
  | true=>rfl
  | false=>exact absurd (.inl hn) h1
 ·by_cases hp:c.par=⟨#[]⟩
  ·exact .inl hp
  ·refine .inr ?_;cases hn:nameB c.par with
   | true=>rfl
   | false=>exact absurd (.inr ⟨hp,hn⟩) h1
theorem KlV.ok{c:Kl}(h:KlV c):KlOk c:=by
 have hn:=kln_of h.cls;exact⟨hn.nm,hn.par,fun f hf=>(hn.fv f hf).ok,hn.bn,fun b hb=>valid_rvl (h.its b hb)⟩
theorem flds_len(k:Nat):∀l:List Fl,(∀f,f∈l→FlV f)→(lnsT k (fldL l)).length≤l.length*(4*k+61)
 | [],_=>by simp[fldL,lnsT]
 | f::r,h=>by
  have h1:=fldT_len (h f (by simp));have h2:=flds_len k r fun g hg=>h g (by simp[hg]);have e:fldL (f::r)=[(0,fldT f)]++fldL r:=rfl;rw[e,lnsT_app,List.length_append,lnsT_cons,lnsT_nil,List.append_nil,lnT_len,List.length_cons,Nat.add_mul];simp only;omega
theorem blks_len(k:Nat):∀l:List Bk,(∀b,b∈l→nameB b.1=true∧rvl b.2 0=0)→(lnsT k (l.flatMap blkL)).length≤l.length*(8*k+40)+(l.map fun b=>ibigs b.2).sum*(12*(k+1)+172)
 | [],_=>by simp[lnsT]
 | b::r,h=>by
  obtain⟨n1,n2⟩:=h b (by simp);have h1:=name_len n1;have h2:=lns_len (k+1) b.2 0 n2;have h3:=blks_len k r fun g hg=>h g (by simp[hg]);have e:(b::r).flatMap blkL=blkL b++r.flatMap blkL:=rfl;have hb:blkL b=(0,[99,111,110,115,116,114,97,105,110,116,32]++(strT b.1++[32,123]))::(upL (lns b.2)++[(0,[125])]):=rfl;rw[e,lnsT_app,hb];simp only[lnsT_cons,lnsT_app,lnsT_up,lnsT_nil,List.length_append,lnT_len,List.length_cons,List.length_nil,List.map_cons,List.sum_cons,Nat.add_mul,strT,Nat.add_zero]at h2 ⊢;omega
theorem cls_len{c:Kl}(h:KlV c)(hk:kbig c≤1100000):(clsT c).length≤1000000000:=by
 have hn:=kln_of h.cls;have h1:=name_len hn.nm
 have h2:(parT c.par).length≤30:=by
  unfold parT strT;split
  ·simp
  ·rename_i hne;have:=name_len (hn.par.resolve_left hne);simp only[List.length_append,List.length_cons,List.length_nil];omega
 have h3:=flds_len 1 c.flds hn.fv;have h4:(lnsT 1 (c.blks.flatMap blkL)).length≤c.blks.length*(8*1+40)+kbig c*(12*(1+1)+172):=blks_len 1 c.blks fun b hb=>⟨hn.bn b hb,valid_rvl (h.its b hb)⟩
 have h5:kbig c*(12*(1+1)+172)≤1100000*(12*(1+1)+172):=Nat.mul_le_mul_right _ hk;have h6:c.flds.length*(4*1+61)≤16*(4*1+61):=Nat.mul_le_mul_right _ hn.fl;have h7:c.blks.length*(8*1+40)≤16*(8*1+40):=Nat.mul_le_mul_right _ hn.bl;unfold fldL at h3;unfold clsT clsL;simp only[Nat.zero_add,lnsT_cons,lnsT_app,lnsT_up,lnsT_nil,List.length_append,lnT_len,List.length_cons,List.length_nil,strT];omega
end Go.Proofs.YtcbahpllcfbkmaaGreatDoor
