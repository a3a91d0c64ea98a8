import Derived.Test.YtcbahpllcfbkmaaGreatDoorSh
import Derived.Test.YtcbahpllcfbkmaaGreatDoorIwk
import Derived.Test.YtcbahpllcfbkmaaGreatDoorK3
set_option linter.unusedVariables false
set_option linter.unusedSimpArgs false
set_option linter.unusedSectionVars false
namespace Go.Proofs.YtcbahpllcfbkmaaGreatDoor
open Go.RowKit
def prB(c:UInt8):Bool:=decide (32≤c.toNat)&&decide (c.toNat≤126)
def prS(l:Bs):Bool:=l.all prB
theorem prS_app(a b:Bs):prS (a++b)=(prS a&&prS b):=List.all_append
theorem prS_cons(c:UInt8)(b:Bs):prS (c::b)=(prB c&&prS b):=List.all_cons
theorem prB_of{c:UInt8}(h1:32≤c.toNat)(h2:c.toNat≤126):prB c=true:=by
 unfold prB;rw[decide_eq_true h1,decide_eq_true h2];rfl
theorem pr_name{s:ByteArray}(h:nameB s=true):prS s.data.toList=true:=by
 have hw:=nameB_word h;unfold prS;rw[List.all_eq_true];intro c hc;obtain⟨i,hi,rfl⟩:=List.getElem_of_mem hc;have hi':i<s.size:=by rw[Lib.size_eq];exact hi
 have hf:=wordB_no hw hi';have he:=get_list s i hi';rw[List.getElem?_eq_getElem hi]at he;rw[Option.some.inj he];generalize s[i]=c at hf;unfold folB lowB digB uppB at hf;simp only[Bool.or_eq_true,Bool.and_eq_true,decide_eq_true_eq]at hf;exact prB_of (by omega) (by omega)
theorem pr_dec(u:Nat):prS (Lib.decDigits u)=true:=by
 induction u using Nat.strongRecOn with
 | _ u ih=>
 rw[Lib.decDigits];have hd:∀k,k<10→prB (UInt8.ofNat (48+k))=true:=by decide
 split
 ·rename_i h;rw[prS_cons,hd _ h];rfl
 ·rename_i h;rw[prS_app,ih _ (by omega),prS_cons,hd _ (by omega)];rfl
theorem pr_at{k:Nat}{x:Ex}(h:prS (textE x)=true):prS (opS k x)=true:=by
 unfold opS;split
 ·rw[prS_cons,prS_app,h];rfl
 ·exact h
theorem pr_mark:∀b,b∈binTab→prS b.1.data.toList=true:=by decide +kernel
theorem pr_pairs:∀l:List Ex,(∀a,a∈l→prS (textE a)=true)→prS (pairS l)=true
 | [],_=>rfl
 | [_],_=>rfl
 | [a,b],h=>by
  have h1:=h a (by simp);have h2:=h b (by simp);rw[pairS,prS_app,h1,prS_app,h2];rfl
 | a::b::c::r,h=>by
  have h1:=h a (by simp);have h2:=h b (by simp);have h3:=pr_pairs (c::r) fun x hx=>h x (by simp only[List.mem_cons]at hx ⊢;exact .inr (.inr hx));rw[pairS,prS_app,prS_app,h1,prS_app,h2,prS_app,h3];rfl
theorem text_pr(e:Ex):errE e=0→prS (textE e)=true:=by
 induction e using Ex.ind with
 | h o n s l ih=>
 intro he;have hs:=sh_of he;generalize hE:Ex.mk o n s l=E at hs;cases hs with
 | const n h0 h1=>rw[text_const];exact pr_dec _
 | var s h=>
  cases hE;rw[text_var];unfold isVarB at h;rw[Bool.or_eq_true]at h;split
  ·rename_i hel;obtain⟨g1,-⟩:=elem_name hel;rw[prS_app,pr_name g1,prS_cons,pr_dec];rfl
  ·rename_i hel;exact pr_name (h.resolve_left hel)
 | elem s x h hx=>
  cases hE;rw[text_elem,prS_app,pr_name h,prS_cons,prS_app,ih x (by simp) hx];rfl
 | pre o x h hx=>
  cases hE;have h3:prS (preS o)=true:=by rcases h with rfl|rfl|rfl<;>decide
  rw[text_pre h,prS_app,h3,pr_at (ih x (by simp) hx)];rfl
 | bin o m k x y h hx hy=>
  cases hE;have h3:=pr_mark _ (binL_some h);rw[text_bin h,prS_app,pr_at (ih x (by simp) hx),prS_cons,prS_app,h3,prS_cons,pr_at (ih y (by simp) hy)];rfl
 | ite x y z hx hy hz=>
  cases hE;rw[text_if,prS_app,pr_at (ih x (by simp) hx),prS_app,prS_app,pr_at (ih y (by simp) hy),prS_app,pr_at (ih z (by simp) hz)];rfl
 | inside x l hx hl hev hne h32=>
  cases hE;rw[text_inside,prS_app,pr_at (ih x (by simp) hx),prS_app,prS_app,pr_pairs l fun a ha=>ih a (by simp[ha]) (hl a ha)];rfl
 | sum s h=>
  cases hE;rw[text_sum,prS_app,prS_app,pr_name h];rfl
 | ones x hx=>
  cases hE;rw[text_ones,prS_app,prS_app,ih x (by simp) hx];rfl
abbrev Ln:=Nat×Bs
def blk(k:Nat):Bs:=List.replicate (4*k) 32
def lnT(k:Nat)(x:Ln):Bs:=blk (k+x.1)++(x.2++[10])
def lnsT(k:Nat)(l:List Ln):Bs:=l.flatMap (lnT k)
def upL(l:List Ln):List Ln:=l.map fun x=>(x.1+1,x.2)
def numT(n:Int):Bs:=Lib.itoa n
def sepT(sep:Bs):List Bs→Bs
 | []=>[]
 | [a]=>a
 | a::b::r=>a++(sep++sepT sep (b::r))
def wtT(w:Wt):Bs:=numT w.lo++((if w.hi=w.lo then[]else[32,46,46,32]++numT w.hi)++((if w.each=true then[32,58,61,32]else[32,58,47,32])++numT w.w))
def wtsT(l:List Wt):Bs:=sepT [44,32] (l.map wtT)
def strT(s:ByteArray):Bs:=s.data.toList
mutual
def lns1:It→List Ln
 | .mk k e nm ix ws l m bf af=>
  if k=1 then[(0,textE e++[59])]
  else if k=2 then[(0,[115,111,102,116,32]++(textE e++[59]))]
  else if k=3 then[(0,[100,105,115,116,32]++(strT nm++([32,123,32]++(wtsT ws++[32,125,59]))))]
  else if k=4 then(0,[105,102,32,40]++(textE e++[41,32,123]))::(upL (lns l)++((if m.isEmpty=true then[]else(0,[125,32,101,108,115,101,32,123])::upL (lns m))++[(0,[125])]))
  else if k=5 then(0,[101,97,99,104,32]++(strT ix++([32,105,110,32]++(strT nm++[32,123]))))::(upL (lns l)++[(0,[125])])
  else[(0,[115,111,108,118,101,32]++(sepT [44,32] (bf.map strT)++([32,98,101,102,111,114,101,32]++(sepT [44,32] (af.map strT)++[59]))))]
def lns:List It→List Ln
 | []=>[]
 | x::r=>lns1 x++lns r
end
theorem lns1_eq(x:It):lns1 x=
 if x.kind=1 then[(0,textE x.ex++[59])]
 else if x.kind=2 then[(0,[115,111,102,116,32]++(textE x.ex++[59]))]
 else if x.kind=3 then[(0,[100,105,115,116,32]++(strT x.name++([32,123,32]++(wtsT x.ws++[32,125,59]))))]
 else if x.kind=4 then(0,[105,102,32,40]++(textE x.ex++[41,32,123]))::(upL (lns x.items)++((if x.els.isEmpty=true then[]else(0,[125,32,101,108,115,101,32,123])::upL (lns x.els))++[(0,[125])]))
 else if x.kind=5 then(0,[101,97,99,104,32]++(strT x.idx++([32,105,110,32]++(strT x.name++[32,123]))))::(upL (lns x.items)++[(0,[125])])
 else[(0,[115,111,108,118,101,32]++(sepT [44,32] (x.bef.map strT)++([32,98,101,102,111,114,101,32]++(sepT [44,32] (x.aft.map strT)++[59]))))]:=by
 cases x;rw[lns1];rfl
theorem lns_app(l m:List It):lns (l++m)=lns l++lns m:=by
 induction l with
 | nil=>rfl
 | cons a r ih=>rw[List.cons_append,lns,lns,ih,List.append_assoc]
theorem lnsT_app(k:Nat)(a b:List Ln):lnsT k (a++b)=lnsT k a++lnsT k b:=List.flatMap_append
theorem lnsT_up(k:Nat)(l:List Ln):lnsT k (upL l)=lnsT (k+1) l:=by
 unfold lnsT upL;rw[List.flatMap_map];congr 1;funext x;show blk (k+(x.1+1))++_=blk (k+1+x.1)++_;rw[show k+(x.1+1)=k+1+x.1 by omega]
structure LnOk(b:Bs):Prop where
 pr:prS b=true
 hd:∃c r,b=c::r∧c≠32
 last:∃c r,b=r++[c]∧c≠32
theorem ln_mk{b:Bs}(h:prS b=true){c d:UInt8}{r r':Bs}(h1:b=c::r)(hc:c≠32)(h2:b=r'++[d])(hd:d≠32):LnOk b:=⟨h,⟨c,r,h1,hc⟩,⟨d,r',h2,hd⟩⟩
theorem pr_sep(sep:Bs)(hs:prS sep=true):∀l:List Bs,(∀a,a∈l→prS a=true)→prS (sepT sep l)=true
 | [],_=>rfl
 | [a],h=>h a (by simp)
 | a::b::r,h=>by
  rw[sepT,prS_app,h a (by simp),prS_app,hs,pr_sep sep hs (b::r) fun x hx=>h x (by simp only[List.mem_cons]at hx ⊢;exact .inr hx)];rfl
theorem pr_num{n:Int}:prS (numT n)=true:=by
 unfold numT Lib.itoa;split
 ·rw[prS_cons,pr_dec];rfl
 ·exact pr_dec _
theorem pr_wt(w:Wt):prS (wtT w)=true:=by
 unfold wtT;rw[prS_app,pr_num,prS_app,prS_app,pr_num];split<;>split<;>(try rw[prS_app,pr_num])<;>rfl
theorem pr_var{s:ByteArray}(h:isVarB s=true):prS (strT s)=true:=by
 unfold isVarB at h;rw[Bool.or_eq_true]at h;rcases h with h|h
 ·obtain⟨g1,g2,g3,g4⟩:=elem_name h;unfold strT;rw[←g4];show prS (elemNm _ _).data.toList=true;unfold elemNm decS mark1;simp only[ByteArray.data_append,Array.toList_append];rw[prS_app,pr_name g1,prS_app,prS_app,pr_dec];rfl
 ·exact pr_name h
theorem hd_dec(u:Nat):∃c r,Lib.decDigits u=c::r∧48≤c.toNat∧c.toNat≤57:=by
 induction u using Nat.strongRecOn with
 | _ u ih=>
 rw[Lib.decDigits];have hd:∀k,k<10→48≤(UInt8.ofNat (48+k)).toNat∧(UInt8.ofNat (48+k)).toNat≤57:=by decide
 split
 ·rename_i h;exact⟨_,[],rfl,hd _ h⟩
 ·rename_i h;obtain⟨c,r,e,h1⟩:=ih (u/10) (by omega);exact⟨c,r++[UInt8.ofNat (48+u%10)],by rw[e];rfl,h1⟩
def wdB(c:UInt8):Bool:=folB c.toNat
theorem name_all{s:ByteArray}(h:nameB s=true):∀c,c∈s.data.toList→wdB c=true:=by
 have hw:=nameB_word h;intro c hc;obtain⟨i,hi,rfl⟩:=List.getElem_of_mem hc;have hi':i<s.size:=by rw[Lib.size_eq];exact hi
 have hf:=wordB_no hw hi';have he:=get_list s i hi';rw[List.getElem?_eq_getElem hi]at he;rw[Option.some.inj he];exact hf
theorem name_hd{s:ByteArray}(h:nameB s=true):∃c r,s.data.toList=c::r∧wdB c=true:=by
 have hp:=wordB_pos (nameB_word h);rw[Lib.size_eq]at hp;cases e:s.data.toList with
 | nil=>rw[e]at hp;cases hp
 | cons c r=>exact⟨c,r,rfl,name_all h c (by rw[e];simp)⟩
theorem wd_blank{c:UInt8}(h:wdB c=true):c≠32∧c≠44∧c≠59∧c≠91:=by
 refine⟨?_,?_,?_,?_⟩<;>(rintro rfl;revert h;decide)
theorem hd_op{k:Nat}{x:Ex}(h:∃c r,textE x=c::r∧c≠32)(q:Bs):∃c r,opS k x++q=c::r∧c≠32:=by
 unfold opS;split
 ·exact⟨40,_,rfl,by decide⟩
 ·obtain⟨c,r,e,hc⟩:=h;exact⟨c,r++q,by rw[e];rfl,hc⟩
theorem text_hd(e:Ex):errE e=0→∃c r,textE e=c::r∧c≠32:=by
 induction e using Ex.ind with
 | h o n s l ih=>
 intro he;have hs:=sh_of he;generalize hE:Ex.mk o n s l=E at hs
 have nm:∀{t:ByteArray} (q:Bs),nameB t=true→∃c r,t.data.toList++q=c::r∧c≠32:=fun q h=>by
  obtain⟨c,r,e,hc⟩:=name_hd h;exact⟨c,r++q,by rw[e];rfl,(wd_blank hc).1⟩
 cases hs with
 | const n h0 h1=>
  obtain⟨c,r,e,hc⟩:=hd_dec n.toNat;rw[text_const];exact⟨c,r,e,by rintro rfl;revert hc;decide⟩
 | var s h=>
  cases hE;rw[text_var];unfold isVarB at h;rw[Bool.or_eq_true]at h;split
  ·rename_i hel;obtain⟨g1,-⟩:=elem_name hel;exact nm _ g1
  ·rename_i hel;have:=nm [] (h.resolve_left hel);rw[List.append_nil]at this;exact this
 | elem s x h hx=>cases hE;rw[text_elem];exact nm _ h
 | pre o x h hx=>
  cases hE;rw[text_pre h];rcases h with rfl|rfl|rfl
  ·exact⟨33,_,rfl,by decide⟩
  ·exact⟨126,_,rfl,by decide⟩
  ·exact⟨45,_,rfl,by decide⟩
 | bin o m k x y h hx hy=>cases hE;rw[text_bin h];exact hd_op (ih x (by simp) hx) _
 | ite x y z hx hy hz=>cases hE;rw[text_if];exact hd_op (ih x (by simp) hx) _
 | inside x l hx hl hev hne h32=>cases hE;rw[text_inside];exact hd_op (ih x (by simp) hx) _
 | sum s h=>cases hE;rw[text_sum];exact⟨115,_,rfl,by decide⟩
 | ones x hx=>cases hE;rw[text_ones];exact⟨111,_,rfl,by decide⟩
theorem ct_body{x:It}{d:Nat}(h:shapeE x d=0):(if x.kind=3 then distE x else if x.kind=6 then solveE x else if x.kind=5 then eachE x else validE x.ex)=0:=by
 unfold shapeE at h;split at h
 ·cases h
 ·exact h
theorem ct_dist{x:It}{d:Nat}(h:shapeE x d=0)(hk:x.kind=3):x.ws≠[]∧x.ws.all wtB=true∧isVarB x.name=true:=by
 have:=ct_body h;rw[if_pos hk]at this;unfold distE at this;split at this
 ·cases this
 ·split at this
  ·cases this
  ·rename_i h1;split at this
   ·cases this
   ·rename_i h2;split at this
    ·rename_i h3;exact⟨h1,by simpa using h2,h3⟩
    ·cases this
theorem ct_solve{x:It}{d:Nat}(h:shapeE x d=0)(hk:x.kind=6):x.bef≠[]∧x.aft≠[]∧(∀s,s∈x.bef→isVarB s=true)∧∀s,s∈x.aft→isVarB s=true:=by
 have:=ct_body h;rw[if_neg (by omega),if_pos hk]at this;unfold solveE at this;split at this
 ·cases this
 ·rename_i h1;split at this
  ·rename_i h2;rw[List.all_append,Bool.and_eq_true,List.all_eq_true,List.all_eq_true]at h2;exact⟨fun e=>h1 (.inl e),fun e=>h1 (.inr e),h2.1,h2.2⟩
  ·cases this
theorem ct_each{x:It}{d:Nat}(h:shapeE x d=0)(hk:x.kind=5):nameB x.name=true∧nameB x.idx=true:=by
 have:=ct_body h;rw[if_neg (by omega),if_neg (by omega),if_pos hk]at this;unfold eachE at this;split at this
 ·assumption
 ·cases this
theorem ct_expr{x:It}{d:Nat}(h:shapeE x d=0)(hk:x.kind=1∨x.kind=2∨x.kind=4):errE x.ex=0:=by
 have:=ct_body h;rw[if_neg (by omega),if_neg (by omega),if_neg (by omega)]at this;exact validE_err this
theorem up_mem{P:Bs→Prop}{l:List Ln}(h:∀y,y∈l→P y.2):∀y,y∈upL l→P y.2:=by
 intro y hy;obtain⟨z,hz,rfl⟩:=List.mem_map.1 hy;exact h z hz
theorem pr_strs{l:List ByteArray}(h:∀s,s∈l→isVarB s=true):prS (sepT [44,32] (l.map strT))=true:=by
 refine pr_sep _ rfl _ fun a ha=>?_;obtain⟨s,hs,rfl⟩:=List.mem_map.1 ha;exact pr_var (h s hs)
theorem lns_ok:∀(l:List It) (d:Nat),rvl l d=0→∀y,y∈lns l→LnOk y.2:=by
 refine its_ind (fun d _ y hy=>by cases hy) fun x r h1 h2 h3 d hv y hy=>?_;obtain⟨s1,s2,s3⟩:=vldX_mem hv (List.mem_cons_self ..)
 have hr:rvl r d=0:=by
  rw[rvl]at hv;split at hv
  ·exact hv
  ·rename_i hn;exact absurd hv hn
 rw[lns]at hy;rcases List.mem_append.1 hy with hy|hy;case inr=>exact h3 d hr y hy
 obtain⟨hk,-,-⟩:=shape_zero s1;rw[lns1_eq]at hy;split at hy
 ·rename_i k;have he:=ct_expr s1 (.inl k);obtain⟨c,t,e,hc⟩:=text_hd _ he;rw[List.mem_singleton.1 hy];exact ln_mk (by rw[prS_app,text_pr _ he];rfl) (by rw[e];rfl) hc rfl (by decide)
 ·split at hy
  ·rename_i k;have he:=ct_expr s1 (.inr (.inl k));rw[List.mem_singleton.1 hy];exact ln_mk (d:=59) (r':=[115,111,102,116,32]++textE x.ex) (by rw[prS_app,prS_app,text_pr _ he];rfl) (c:=115) rfl (by decide) (by simp) (by decide)
  ·split at hy
   ·rename_i k;obtain⟨-,-,hn⟩:=ct_dist s1 k;have hw:prS (wtsT x.ws)=true:=pr_sep _ rfl _ fun a ha=>by obtain⟨w,-,rfl⟩:=List.mem_map.1 ha;exact pr_wt w
    rw[List.mem_singleton.1 hy];exact ln_mk (d:=59) (r':=[100,105,115,116,32]++(strT x.name++([32,123,32]++(wtsT x.ws++[32,125])))) (by rw[prS_app,prS_app,pr_var hn,prS_app,prS_app,hw];rfl) (c:=100) rfl (by decide) (by simp) (by decide)
   ·split at hy
    ·rename_i k;have he:=ct_expr s1 (.inr (.inr k));rcases List.mem_cons.1 hy with rfl|hy
     ·exact ln_mk (d:=123) (r':=[105,102,32,40]++(textE x.ex++[41,32])) (by rw[prS_app,prS_app,text_pr _ he];rfl) (c:=105) rfl (by decide) (by simp) (by decide)
     ·rcases List.mem_append.1 hy with hy|hy
      ·exact up_mem (h1 (d+1) s2) y hy
      ·rcases List.mem_append.1 hy with hy|hy
       ·split at hy
        ·cases hy
        ·rcases List.mem_cons.1 hy with rfl|hy
         ·exact ln_mk (d:=123) (r':=[125,32,101,108,115,101,32]) (by decide) (c:=125) rfl (by decide) rfl (by decide)
         ·exact up_mem (h2 (d+1) s3) y hy
       ·rw[List.mem_singleton.1 hy];exact ln_mk (d:=125) (r':=[]) (by decide) (c:=125) rfl (by decide) rfl (by decide)
    ·split at hy
     ·rename_i k;obtain⟨n1,n2⟩:=ct_each s1 k;rcases List.mem_cons.1 hy with rfl|hy
      ·exact ln_mk (d:=123) (r':=[101,97,99,104,32]++(strT x.idx++([32,105,110,32]++(strT x.name++[32])))) (by
        have e1:prS (strT x.idx)=true:=pr_name n2;have e2:prS (strT x.name)=true:=pr_name n1;show prS ([101,97,99,104,32]++(strT x.idx++([32,105,110,32]++(strT x.name++[32,123]))))=true;rw[prS_app,prS_app,e1,prS_app,prS_app,e2];rfl) (c:=101) rfl (by decide) (by simp) (by decide)
      ·rcases List.mem_append.1 hy with hy|hy
       ·exact up_mem (h1 (d+1) s2) y hy
       ·rw[List.mem_singleton.1 hy];exact ln_mk (d:=125) (r':=[]) (by decide) (c:=125) rfl (by decide) rfl (by decide)
     ·have k:x.kind=6:=by omega
      obtain⟨-,-,n1,n2⟩:=ct_solve s1 k;rw[List.mem_singleton.1 hy];exact ln_mk (d:=59) (r':=[115,111,108,118,101,32]++(sepT [44,32] (x.bef.map strT)++([32,98,101,102,111,114,101,32]++sepT [44,32] (x.aft.map strT)))) (by rw[prS_app,prS_app,pr_strs n1,prS_app,prS_app,pr_strs n2];rfl) (c:=115) rfl (by decide) (by simp) (by decide)
def indS:Bool→Bs→Bs
 | _,[]=>[]
 | f,c::r=>(if f=true then[32,32,32,32]else[])++c::indS (c==10) r
theorem pr_ten{b:Bs}(h:prS b=true):∀c,c∈b→(c==10)=false:=by
 intro c hc;have:=List.all_eq_true.1 h c hc;unfold prB at this;simp only[Bool.and_eq_true,decide_eq_true_eq]at this;cases e:c==10 with
 | false=>rfl
 | true=>rw[beq_iff_eq]at e;subst e;revert this;decide
theorem ind_in:∀(w q:Bs),(∀c,c∈w→(c==10)=false)→indS false (w++10::q)=w++10::indS true q
 | [],q,_=>rfl
 | c::w,q,h=>by
  rw[List.cons_append,indS,h c (by simp),ind_in w q fun x hx=>h x (by simp[hx])];rfl
theorem ind_line(w q:Bs)(h:∀c,c∈w→(c==10)=false):indS true (w++10::q)=[32,32,32,32]++(w++10::indS true q):=by
 cases w with
 | nil=>rfl
 | cons c w=>rw[List.cons_append,indS,h c (by simp),ind_in w q fun x hx=>h x (by simp[hx])];rfl
theorem blk_ten(k:Nat):∀c,c∈blk k→(c==10)=false:=fun c hc=>by
 rw[(List.mem_replicate.1 hc).2];rfl
theorem blk_up(k:Nat):[32,32,32,32]++blk k=blk (k+1):=by
 unfold blk;rw[show 4*(k+1)=4+4*k by omega,←List.replicate_append_replicate];rfl
theorem ind_lns(k:Nat)(l:List Ln)(h:∀y,y∈l→prS y.2=true):indS true (lnsT k l)=lnsT (k+1) l:=by
 induction l with
 | nil=>rfl
 | cons x r ih=>
  have e:lnsT k (x::r)=(blk (k+x.1)++x.2)++10::lnsT k r:=by
   show lnT k x++lnsT k r=_;unfold lnT;simp
  rw[e,ind_line _ _ fun c hc=>?_,ih fun y hy=>h y (by simp[hy])]
  ·show _=lnT (k+1) x++lnsT (k+1) r;unfold lnT;rw[show k+1+x.1=(k+x.1)+1 by omega,←blk_up];simp
  ·rcases List.mem_append.1 hc with hc|hc
   ·exact blk_ten _ c hc
   ·exact pr_ten (h x (by simp)) c hc
theorem num_len{n:Int}(h0:0≤n)(h1:n≤65535):(numT n).length≤5:=by
 have h:=dec_five n.toNat (by omega);unfold numT Lib.itoa;rw[if_neg (by omega)];exact h
theorem var_len{s:ByteArray}(h:isVarB s=true):(strT s).length≤23:=by
 unfold isVarB at h;rw[Bool.or_eq_true]at h;rcases h with h|h;case inr=>have:=name_len h;unfold strT;omega
 ·obtain⟨g1,g2,g3,g4⟩:=elem_name h;have hl:=name_len g1;have h5:=dec_five (elemDig s).toNat (by omega);have:=congrArg (fun s:ByteArray=>s.data.toList.length) g4;simp only[elemNm,decS]at this;have hsz:(cutA s 91).size=(cutA s 91).data.toList.length:=rfl;unfold strT;rw[←this];simp[mark1];omega
theorem wt_len{w:Wt}(h:wtB w=true):(wtT w).length≤23:=by
 unfold wtB at h;simp only[Bool.and_eq_true,decide_eq_true_eq]at h;have h1:=num_len (n:=w.lo) (by omega) (by omega);have h2:=num_len (n:=w.hi) (by omega) (by omega);have h3:=num_len (n:=w.w) (by omega) (by omega);unfold wtT;split<;>split<;>simp only[List.length_append,List.length_cons,List.length_nil]<;>omega
theorem sep_len(sep:Bs)(m:Nat):∀l:List Bs,(∀a,a∈l→a.length≤m)→(sepT sep l).length≤l.length*(m+sep.length)
 | [],_=>by simp[sepT]
 | [a],h=>by
  have:=h a (by simp);simp only[sepT,List.length_cons,List.length_nil];omega
 | a::b::r,h=>by
  have h1:=h a (by simp);have h2:=sep_len sep m (b::r) fun x hx=>h x (by simp only[List.mem_cons]at hx ⊢;exact .inr hx);rw[sepT,List.length_append,List.length_append];rw[List.length_cons,Nat.add_mul];omega
theorem lnT_len(k:Nat)(x:Ln):(lnT k x).length=4*(k+x.1)+x.2.length+1:=by
 unfold lnT blk;simp only[List.length_append,List.length_replicate,List.length_cons,List.length_nil];omega
theorem lnsT_cons(k:Nat)(x:Ln)(r:List Ln):lnsT k (x::r)=lnT k x++lnsT k r:=rfl
theorem lnsT_nil(k:Nat):lnsT k []=[]:=rfl
theorem strs_len{l:List ByteArray}(h:∀s,s∈l→isVarB s=true):(sepT [44,32] (l.map strT)).length≤l.length*25:=by
 have:=sep_len [44,32] 23 (l.map strT) fun a ha=>by
  obtain⟨s,hs,rfl⟩:=List.mem_map.1 ha;exact var_len (h s hs)
 simpa using this
theorem wts_len{l:List Wt}(h:l.all wtB=true):(wtsT l).length≤l.length*25:=by
 have:=sep_len [44,32] 23 (l.map wtT) fun a ha=>by
  obtain⟨w,hw,rfl⟩:=List.mem_map.1 ha;exact wt_len (List.all_eq_true.1 h w hw)
 simpa[wtsT]using this
theorem mul_own{a b c m:Nat}(h:172≤m)(h2:c+64*a+25*b+172≤64*a+25*b+m+172):64*a+25*b+c≤(1+a+b)*m:=by
 have h3:a*172≤a*m:=Nat.mul_le_mul_left _ h;have h4:b*172≤b*m:=Nat.mul_le_mul_left _ h;rw[Nat.add_mul,Nat.add_mul];omega
theorem lns_len(e:Nat):∀(l:List It) (d:Nat),rvl l d=0→(lnsT (e+d) (lns l)).length≤ibigs l*(12*e+172):=by
 refine its_ind (fun d _=>by rw[lns,lnsT_nil];simp) fun x r h1 h2 h3 d hv=>?_;obtain⟨s1,s2,s3⟩:=vldX_mem hv (List.mem_cons_self ..)
 have hr:=h3 d (by
  rw[rvl]at hv;split at hv
  ·exact hv
  ·rename_i hn;exact absurd hv hn)
 obtain⟨hk,-,hd⟩:=shape_zero s1;rw[lns,lnsT_app,List.length_append,ibigs,Nat.add_mul];refine Nat.add_le_add ?_ hr;have i1:=h1 (d+1) s2;have i2:=h2 (d+1) s3;rw[←Nat.add_assoc,←lnsT_up]at i1 i2;rw[lns1_eq,ibig_eq];have hm:172≤12*e+172:=by omega
 have add:∀a b c y z:Nat,64*a+25*b+c≤(1+a+b)*(12*e+172)→y≤ibigs x.items*(12*e+172)→z≤ibigs x.els*(12*e+172)→a≤esize x.ex→b≤x.ws.length+x.bef.length+x.aft.length→
  64*a+25*b+c+y+z≤(1+esize x.ex+x.ws.length+x.bef.length+x.aft.length+ibigs x.items+ibigs x.els)*(12*e+172):=by
  intro a b c y z g1 g2 g3 g4 g5;have g6:(1+a+b)*(12*e+172)≤(1+esize x.ex+x.ws.length+x.bef.length+x.aft.length)*(12*e+172):=Nat.mul_le_mul_right _ (by omega);rw[Nat.add_mul _ (ibigs x.els),Nat.add_mul _ (ibigs x.items)];omega
 split
 ·rename_i k;have he:=text_len _ (ct_expr s1 (.inl k));rw[lnsT_cons,lnsT_nil,List.length_append,lnT_len];simp only[List.length_append,List.length_cons,List.length_nil];have:=add (esize x.ex) 0 (4*(e+d)+2) 0 0 (mul_own hm (by omega)) (Nat.zero_le _) (Nat.zero_le _) (Nat.le_refl _) (Nat.zero_le _);omega
 ·split
  ·rename_i k;have he:=text_len _ (ct_expr s1 (.inr (.inl k)));rw[lnsT_cons,lnsT_nil,List.length_append,lnT_len];simp only[List.length_append,List.length_cons,List.length_nil];have:=add (esize x.ex) 0 (4*(e+d)+7) 0 0 (mul_own hm (by omega)) (Nat.zero_le _) (Nat.zero_le _) (Nat.le_refl _) (Nat.zero_le _);omega
  ·split
   ·rename_i k;obtain⟨-,hw,hn⟩:=ct_dist s1 k;have e1:=var_len hn;have e2:=wts_len hw;rw[lnsT_cons,lnsT_nil,List.length_append,lnT_len];simp only[List.length_append,List.length_cons,List.length_nil];have:=add 0 x.ws.length (4*(e+d)+40) 0 0 (mul_own hm (by omega)) (Nat.zero_le _) (Nat.zero_le _) (Nat.zero_le _) (by omega);omega
   ·split
    ·rename_i k;have he:=text_len _ (ct_expr s1 (.inr (.inr k)));simp only[lnsT_cons,lnsT_app,lnsT_nil,List.length_append,lnT_len,List.length_cons,List.length_nil];have:=add (esize x.ex) 0 (12*(e+d)+40) _ _ (mul_own hm (by omega)) i1 i2 (Nat.le_refl _) (Nat.zero_le _);split
     ·simp only[lnsT_nil,List.length_nil];omega
     ·simp only[lnsT_cons,List.length_append,lnT_len,List.length_cons,List.length_nil];omega
    ·split
     ·rename_i k;obtain⟨n1,n2⟩:=ct_each s1 k;have e1:=name_len n1;have e2:=name_len n2;simp only[lnsT_cons,lnsT_app,lnsT_nil,List.length_append,lnT_len,List.length_cons,List.length_nil];have:=add 0 0 (8*(e+d)+60) _ 0 (mul_own hm (by omega)) i1 (Nat.zero_le _) (Nat.zero_le _) (Nat.zero_le _);simp only[strT];omega
     ·have k:x.kind=6:=by omega
      obtain⟨-,-,n1,n2⟩:=ct_solve s1 k;have e1:=strs_len n1;have e2:=strs_len n2;rw[lnsT_cons,lnsT_nil,List.length_append,lnT_len];simp only[List.length_append,List.length_cons,List.length_nil];have:=add 0 (x.bef.length+x.aft.length) (4*(e+d)+40) 0 0 (mul_own hm (by omega)) (Nat.zero_le _) (Nat.zero_le _) (Nat.zero_le _) (by omega);omega
end Go.Proofs.YtcbahpllcfbkmaaGreatDoor
