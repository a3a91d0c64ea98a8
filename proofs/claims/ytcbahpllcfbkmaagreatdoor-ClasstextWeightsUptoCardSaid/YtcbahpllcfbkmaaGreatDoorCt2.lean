import Derived.Test.YtcbahpllcfbkmaaGreatDoorCt1
set_option linter.unusedVariables false
set_option linter.unusedSimpArgs false
set_option linter.unusedSectionVars false
namespace Go.Proofs.YtcbahpllcfbkmaaGreatDoor
open Go.RowKit
theorem hd_dec(u:Nat):∃c r,Lib.decDigits u=c::r∧48≤c.toNat∧c.toNat≤57:=by
 induction u using Nat.strongRecOn with
 | _ u ih=>
 rw[Lib.decDigits];have hd:∀k,k<10→48≤(UInt8.ofNat (48+k)).toNat∧(UInt8.ofNat (48+k)).toNat≤57:=by decide
 split
 ·rename_i h;exact⟨_,[],rfl,hd _ h⟩
 ·rename_i h;obtain⟨c,r,e,h1⟩:=ih (u/10) (by omega);exact⟨c,r++[UInt8.ofNat (48+u%10)],by rw[e];rfl,h1⟩
def wdB(c:UInt8):Bool:=folB c.toNat
theorem name_all{s:ByteArray}(h:nameB s=true):∀c,c∈s.data.toList→wdB c=true:=by
 have hw:=nameB_word h;intro c hc;obtain⟨i,hi,rfl⟩:=List.getElem_of_mem hc;have hi':i<s.size:=by rw[Lib.size_eq];exact hi
 have hf:=wordB_no hw hi';have he:=get_list s i hi';rw[List.getElem?_eq_getElem hi]at he;rw[Option.some.inj he];exact hf
theorem name_hd{s:ByteArray}(h:nameB s=true):∃c r,s.data.toList=c::r∧wdB c=true:=by
 have hp:=wordB_pos (nameB_word h);rw[Lib.size_eq]at hp;cases e:s.data.toList with
 | nil=>rw[e]at hp;cases hp
 | cons c r=>exact⟨c,r,rfl,name_all h c (by rw[e];simp)⟩
theorem wd_blank{c:UInt8}(h:wdB c=true):c≠32∧c≠44∧c≠59∧c≠91:=by
 refine⟨?_,?_,?_,?_⟩<;>(rintro rfl;revert h;decide)
theorem hd_op{k:Nat}{x:Ex}(h:∃c r,textE x=c::r∧c≠32)(q:Bs):∃c r,opS k x++q=c::r∧c≠32:=by
 unfold opS;split
 ·exact⟨40,_,rfl,by decide⟩
 ·obtain⟨c,r,e,hc⟩:=h;exact⟨c,r++q,by rw[e];rfl,hc⟩
theorem text_hd(e:Ex):errE e=0→∃c r,textE e=c::r∧c≠32:=by
 induction e using Ex.ind with
 | h o n s l ih=>
 intro he;have hs:=sh_of he;generalize hE:Ex.mk o n s l=E at hs
 have nm:∀{t:ByteArray} (q:Bs),nameB t=true→∃c r,t.data.toList++q=c::r∧c≠32:=fun q h=>by
  obtain⟨c,r,e,hc⟩:=name_hd h;exact⟨c,r++q,by rw[e];rfl,(wd_blank hc).1⟩
 cases hs with
 | const n h0 h1=>
  obtain⟨c,r,e,hc⟩:=hd_dec n.toNat;rw[text_const];exact⟨c,r,e,by rintro rfl;revert hc;decide⟩
 | var s h=>
  cases hE;rw[text_var];unfold isVarB at h;rw[Bool.or_eq_true]at h;split
  ·rename_i hel;obtain⟨g1,-⟩:=elem_name hel;exact nm _ g1
  ·rename_i hel;have:=nm [] (h.resolve_left hel);rw[List.append_nil]at this;exact this
 | elem s x h hx=>cases hE;rw[text_elem];exact nm _ h
 | pre o x h hx=>
  cases hE;rw[text_pre h];rcases h with rfl|rfl|rfl
  ·exact⟨33,_,rfl,by decide⟩
  ·exact⟨126,_,rfl,by decide⟩
  ·exact⟨45,_,rfl,by decide⟩
 | bin o m k x y h hx hy=>cases hE;rw[text_bin h];exact hd_op (ih x (by simp) hx) _
 | ite x y z hx hy hz=>cases hE;rw[text_if];exact hd_op (ih x (by simp) hx) _
 | inside x l hx hl hev hne h32=>cases hE;rw[text_inside];exact hd_op (ih x (by simp) hx) _
 | sum s h=>cases hE;rw[text_sum];exact⟨115,_,rfl,by decide⟩
 | ones x hx=>cases hE;rw[text_ones];exact⟨111,_,rfl,by decide⟩
theorem ct_body{x:It}{d:Nat}(h:shapeE x d=0):(if x.kind=3 then distE x else if x.kind=6 then solveE x else if x.kind=5 then eachE x else validE x.ex)=0:=by
 unfold shapeE at h;split at h
 ·cases h
 ·exact h
theorem ct_dist{x:It}{d:Nat}(h:shapeE x d=0)(hk:x.kind=3):x.ws≠[]∧x.ws.all wtB=true∧isVarB x.name=true:=by
 have:=ct_body h;rw[if_pos hk]at this;unfold distE at this;split at this
 ·cases this
 ·split at this
  ·cases this
  ·rename_i h1;split at this
   ·cases this
   ·rename_i h2;split at this
    ·rename_i h3;exact⟨h1,by simpa using h2,h3⟩
    ·cases this
theorem ct_solve{x:It}{d:Nat}(h:shapeE x d=0)(hk:x.kind=6):x.bef≠[]∧x.aft≠[]∧(∀s,s∈x.bef→isVarB s=true)∧∀s,s∈x.aft→isVarB s=true:=by
 have:=ct_body h;rw[if_neg (by omega),if_pos hk]at this;unfold solveE at this;split at this
 ·cases this
 ·rename_i h1;split at this
  ·rename_i h2;rw[List.all_append,Bool.and_eq_true,List.all_eq_true,List.all_eq_true]at h2;exact⟨fun e=>h1 (.inl e),fun e=>h1 (.inr e),h2.1,h2.2⟩
  ·cases this
theorem ct_each{x:It}{d:Nat}(h:shapeE x d=0)(hk:x.kind=5):nameB x.name=true∧nameB x.idx=true:=by
 have:=ct_body h;rw[if_neg (by omega),if_neg (by omega),if_pos hk]at this;unfold eachE at this;split at this
 ·assumption
 ·cases this
theorem ct_expr{x:It}{d:Nat}(h:shapeE x d=0)(hk:x.kind=1∨x.kind=2∨x.kind=4):errE x.ex=0:=by
 have:=ct_body h;rw[if_neg (by omega),if_neg (by omega),if_neg (by omega)]at this;exact validE_err this
theorem up_mem{P:Bs→Prop}{l:List Ln}(h:∀y,y∈l→P y.2):∀y,y∈upL l→P y.2:=by
 intro y hy;obtain⟨z,hz,rfl⟩:=List.mem_map.1 hy;exact h z hz
theorem pr_strs{l:List ByteArray}(h:∀s,s∈l→isVarB s=true):prS (sepT [44,32] (l.map strT))=true:=by
 refine pr_sep _ rfl _ fun a ha=>?_;obtain⟨s,hs,rfl⟩:=List.mem_map.1 ha;exact pr_var (h s hs)
theorem lns_ok:∀(l:List It) (d:Nat),rvl l d=0→∀y,y∈lns l→LnOk y.2:=by
 refine its_ind (fun d _ y hy=>by cases hy) fun x r h1 h2 h3 d hv y hy=>?_;obtain⟨s1,s2,s3⟩:=vldX_mem hv (List.mem_cons_self ..)
 have hr:rvl r d=0:=by
  rw[rvl]at hv;split at hv
  ·exact hv
  ·rename_i hn;exact absurd hv hn
 rw[lns]at hy;rcases List.mem_append.1 hy with hy|hy;case inr=>exact h3 d hr y hy
 obtain⟨hk,-,-⟩:=shape_zero s1;rw[lns1_eq]at hy;split at hy
 ·rename_i k;have he:=ct_expr s1 (.inl k);obtain⟨c,t,e,hc⟩:=text_hd _ he;rw[List.mem_singleton.1 hy];exact ln_mk (by rw[prS_app,text_pr _ he];rfl) (by rw[e];rfl) hc rfl (by decide)
 ·split at hy
  ·rename_i k;have he:=ct_expr s1 (.inr (.inl k));rw[List.mem_singleton.1 hy];exact ln_mk (d:=59) (r':=[115,111,102,116,32]++textE x.ex) (by rw[prS_app,prS_app,text_pr _ he];rfl) (c:=115) rfl (by decide) (by simp) (by decide)
  ·split at hy
   ·rename_i k;obtain⟨-,-,hn⟩:=ct_dist s1 k;have hw:prS (wtsT x.ws)=true:=pr_sep _ rfl _ fun a ha=>by obtain⟨w,-,rfl⟩:=List.mem_map.1 ha;exact pr_wt w
    rw[List.mem_singleton.1 hy];exact ln_mk (d:=59) (r':=[100,105,115,116,32]++(strT x.name++([32,123,32]++(wtsT x.ws++[32,125])))) (by rw[prS_app,prS_app,pr_var hn,prS_app,prS_app,hw];rfl) (c:=100) rfl (by decide) (by simp) (by decide)
   ·split at hy
    ·rename_i k;have he:=ct_expr s1 (.inr (.inr k));rcases List.mem_cons.1 hy with rfl|hy
     ·exact ln_mk (d:=123) (r':=[105,102,32,40]++(textE x.ex++[41,32])) (by rw[prS_app,prS_app,text_pr _ he];rfl) (c:=105) rfl (by decide) (by simp) (by decide)
     ·rcases List.mem_append.1 hy with hy|hy
      ·exact up_mem (h1 (d+1) s2) y hy
      ·rcases List.mem_append.1 hy with hy|hy
       ·split at hy
        ·cases hy
        ·rcases List.mem_cons.1 hy with rfl|hy
         ·exact ln_mk (d:=123) (r':=[125,32,101,108,115,101,32]) (by decide) (c:=125) rfl (by decide) rfl (by decide)
         ·exact up_mem (h2 (d+1) s3) y hy
       ·rw[List.mem_singleton.1 hy];exact ln_mk (d:=125) (r':=[]) (by decide) (c:=125) rfl (by decide) rfl (by decide)
    ·split at hy
     ·rename_i k;obtain⟨n1,n2⟩:=ct_each s1 k;rcases List.mem_cons.1 hy with rfl|hy
      ·exact ln_mk (d:=123) (r':=[101,97,99,104,32]++(strT x.idx++([32,105,110,32]++(strT x.name++[32])))) (by
        have e1:prS (strT x.idx)=true:=pr_name n2;have e2:prS (strT x.name)=true:=pr_name n1;show prS ([101,97,99,104,32]++(strT x.idx++([32,105,110,32]++(strT x.name++[32,123]))))=true;rw[prS_app,prS_app,e1,prS_app,prS_app,e2];rfl) (c:=101) rfl (by decide) (by simp) (by decide)
      ·rcases List.mem_append.1 hy with hy|hy
       ·exact up_mem (h1 (d+1) s2) y hy
       ·rw[List.mem_singleton.1 hy];exact ln_mk (d:=125) (r':=[]) (by decide) (c:=125) rfl (by decide) rfl (by decide)
     ·have k:x.kind=6:=by omega
      obtain⟨-,-,n1,n2⟩:=ct_solve s1 k;rw[List.mem_singleton.1 hy];exact ln_mk (d:=59) (r':=[115,111,108,118,101,32]++(sepT [44,32] (x.bef.map strT)++([32,98,101,102,111,114,101,32]++sepT [44,32] (x.aft.map strT)))) (by rw[prS_app,prS_app,pr_strs n1,prS_app,prS_app,pr_strs n2];rfl) (c:=115) rfl (by decide) (by simp) (by decide)
theorem pr_ten{b:Bs}(h:prS b=true):∀c,c∈b→(c==10)=false:=by
 intro c hc;have:=List.all_eq_true.1 h c hc;unfold prB at this;simp only[Bool.and_eq_true,decide_eq_true_eq]at this;cases e:c==10 with
 | false=>rfl
 | true=>rw[beq_iff_eq]at e;subst e;revert this;decide
theorem blk_up(k:Nat):[32,32,32,32]++blk k=blk (k+1):=by
 unfold blk;rw[show 4*(k+1)=4+4*k by omega,←List.replicate_append_replicate];rfl
def endS:UInt8→Bs→Bool
 | _,[]=>true
 | p,c::r=>!(c==10&&p==32)&&(c==10||prB c)&&endS c r
theorem end_in:∀(w q:Bs) (p:UInt8),prS w=true→endS p (w++q)=endS (w.getLast?.getD p) q
 | [],q,p,_=>rfl
 | c::w,q,p,h=>by
  rw[prS_cons,Bool.and_eq_true]at h;have h10:=pr_ten (b:=c::w) (by rw[prS_cons,h.1,h.2];rfl) c (by simp);rw[List.cons_append,endS,h10,h.1,end_in w q c h.2,List.getLast?_cons];simp
theorem pr_blk(k:Nat):prS (blk k)=true:=by
 unfold prS;rw[List.all_eq_true];intro c hc;rw[(List.mem_replicate.1 hc).2];rfl
theorem end_line(k:Nat)(x:Ln)(q:Bs)(p:UInt8)(h:LnOk x.2):endS p (lnT k x++q)=endS 10 q:=by
 obtain⟨h1,-,⟨c,r,e,hc⟩⟩:=h;have e2:lnT k x++q=(blk (k+x.1)++(r++[c]))++10::q:=by unfold lnT;rw[e];simp
 rw[e]at h1;rw[e2,end_in _ _ _ (by rw[prS_app,pr_blk,h1];rfl)];have:((blk (k+x.1)++(r++[c])).getLast?.getD p)=c:=by rw[←List.append_assoc,List.getLast?_concat];rfl
 rw[this,endS];have hc2:(c==32)=false:=by simpa using hc
 rw[hc2];rfl
theorem end_lns(k:Nat)(l:List Ln)(q:Bs)(h:∀y,y∈l→LnOk y.2):endS 10 (lnsT k l++q)=endS 10 q:=by
 induction l with
 | nil=>rfl
 | cons x r ih=>
  have e:lnsT k (x::r)++q=lnT k x++(lnsT k r++q):=by show(lnT k x++lnsT k r)++q=_;rw[List.append_assoc]
  rw[e,end_line k x _ _ (h x (by simp)),ih fun y hy=>h y (by simp[hy])]
end Go.Proofs.YtcbahpllcfbkmaaGreatDoor
