import Derived.Test.YtcbahpllcfbkmaaGreatDoorSh
import Derived.Test.YtcbahpllcfbkmaaGreatDoorToks7
set_option linter.unusedVariables false
set_option linter.unusedSimpArgs false
set_option linter.unusedSectionVars false
namespace Go.Proofs.YtcbahpllcfbkmaaGreatDoor
open Go.RowKit
def prB(c:UInt8):Bool:=decide (32≤c.toNat)&&decide (c.toNat≤126)
def prS(l:Bs):Bool:=l.all prB
theorem prS_app(a b:Bs):prS (a++b)=(prS a&&prS b):=List.all_append
theorem prS_cons(c:UInt8)(b:Bs):prS (c::b)=(prB c&&prS b):=List.all_cons
theorem prB_of{c:UInt8}(h1:32≤c.toNat)(h2:c.toNat≤126):prB c=true:=by
 unfold prB;rw[decide_eq_true h1,decide_eq_true h2];rfl
theorem pr_name{s:ByteArray}(h:nameB s=true):prS s.data.toList=true:=by
 have hw:=nameB_word h;unfold prS;rw[List.all_eq_true];intro c hc;obtain⟨i,hi,rfl⟩:=List.getElem_of_mem hc;have hi':i<s.size:=by rw[Lib.size_eq];exact hi
 have hf:=wordB_no hw hi';have he:=get_list s i hi';rw[List.getElem?_eq_getElem hi]at he;rw[Option.some.inj he];generalize s[i]=c at hf;unfold folB lowB digB uppB at hf;simp only[Bool.or_eq_true,Bool.and_eq_true,decide_eq_true_eq]at hf;exact prB_of (by omega) (by omega)
theorem pr_dec(u:Nat):prS (Lib.decDigits u)=true:=by
 induction u using Nat.strongRecOn with
 | _ u ih=>
 rw[Lib.decDigits];have hd:∀k,k<10→prB (UInt8.ofNat (48+k))=true:=by decide
 split
 ·rename_i h;rw[prS_cons,hd _ h];rfl
 ·rename_i h;rw[prS_app,ih _ (by omega),prS_cons,hd _ (by omega)];rfl
theorem pr_at{k:Nat}{x:Ex}(h:prS (textE x)=true):prS (opS k x)=true:=by
 unfold opS;split
 ·rw[prS_cons,prS_app,h];rfl
 ·exact h
theorem pr_mark:∀b,b∈binTab→prS b.1.data.toList=true:=by decide +kernel
theorem pr_pairs:∀l:List Ex,(∀a,a∈l→prS (textE a)=true)→prS (pairS l)=true
 | [],_=>rfl
 | [_],_=>rfl
 | [a,b],h=>by
  have h1:=h a (by simp);have h2:=h b (by simp);rw[pairS,prS_app,h1,prS_app,h2];rfl
 | a::b::c::r,h=>by
  have h1:=h a (by simp);have h2:=h b (by simp);have h3:=pr_pairs (c::r) fun x hx=>h x (by simp only[List.mem_cons]at hx ⊢;exact .inr (.inr hx));rw[pairS,prS_app,prS_app,h1,prS_app,h2,prS_app,h3];rfl
theorem text_pr(e:Ex):errE e=0→prS (textE e)=true:=by
 induction e using Ex.ind with
 | h o n s l ih=>
 intro he;have hs:=sh_of he;generalize hE:Ex.mk o n s l=E at hs;cases hs with
 | const n h0 h1=>rw[text_const];exact pr_dec _
 | var s h=>
  cases hE;rw[text_var];unfold isVarB at h;rw[Bool.or_eq_true]at h;split
  ·rename_i hel;obtain⟨g1,-⟩:=elem_name hel;rw[prS_app,pr_name g1,prS_cons,pr_dec];rfl
  ·rename_i hel;exact pr_name (h.resolve_left hel)
 | elem s x h hx=>
  cases hE;rw[text_elem,prS_app,pr_name h,prS_cons,prS_app,ih x (by simp) hx];rfl
 | pre o x h hx=>
  cases hE;have h3:prS (preS o)=true:=by rcases h with rfl|rfl|rfl<;>decide
  rw[text_pre h,prS_app,h3,pr_at (ih x (by simp) hx)];rfl
 | bin o m k x y h hx hy=>
  cases hE;have h3:=pr_mark _ (binL_some h);rw[text_bin h,prS_app,pr_at (ih x (by simp) hx),prS_cons,prS_app,h3,prS_cons,pr_at (ih y (by simp) hy)];rfl
 | ite x y z hx hy hz=>
  cases hE;rw[text_if,prS_app,pr_at (ih x (by simp) hx),prS_app,prS_app,pr_at (ih y (by simp) hy),prS_app,pr_at (ih z (by simp) hz)];rfl
 | inside x l hx hl hev hne h32=>
  cases hE;rw[text_inside,prS_app,pr_at (ih x (by simp) hx),prS_app,prS_app,pr_pairs l fun a ha=>ih a (by simp[ha]) (hl a ha)];rfl
 | sum s h=>
  cases hE;rw[text_sum,prS_app,prS_app,pr_name h];rfl
 | ones x hx=>
  cases hE;rw[text_ones,prS_app,prS_app,ih x (by simp) hx];rfl
abbrev Ln:=Nat×Bs
def blk(k:Nat):Bs:=List.replicate (4*k) 32
def lnT(k:Nat)(x:Ln):Bs:=blk (k+x.1)++(x.2++[10])
def lnsT(k:Nat)(l:List Ln):Bs:=l.flatMap (lnT k)
def upL(l:List Ln):List Ln:=l.map fun x=>(x.1+1,x.2)
def numT(n:Int):Bs:=Lib.itoa n
def sepT(sep:Bs):List Bs→Bs
 | []=>[]
 | [a]=>a
 | a::b::r=>a++(sep++sepT sep (b::r))
def wtT(w:Wt):Bs:=numT w.lo++((if w.hi=w.lo then[]else[32,46,46,32]++numT w.hi)++((if w.each=true then[32,58,61,32]else[32,58,47,32])++numT w.w))
def wtsT(l:List Wt):Bs:=sepT [44,32] (l.map wtT)
def strT(s:ByteArray):Bs:=s.data.toList
mutual
def lns1:It→List Ln
 | .mk k e nm ix ws l m bf af=>
  if k=1 then[(0,textE e++[59])]
  else if k=2 then[(0,[115,111,102,116,32]++(textE e++[59]))]
  else if k=3 then[(0,[100,105,115,116,32]++(strT nm++([32,123,32]++(wtsT ws++[32,125,59]))))]
  else if k=4 then(0,[105,102,32,40]++(textE e++[41,32,123]))::(upL (lns l)++((if m.isEmpty=true then[]else(0,[125,32,101,108,115,101,32,123])::upL (lns m))++[(0,[125])]))
  else if k=5 then(0,[101,97,99,104,32]++(strT ix++([32,105,110,32]++(strT nm++[32,123]))))::(upL (lns l)++[(0,[125])])
  else[(0,[115,111,108,118,101,32]++(sepT [44,32] (bf.map strT)++([32,98,101,102,111,114,101,32]++(sepT [44,32] (af.map strT)++[59]))))]
def lns:List It→List Ln
 | []=>[]
 | x::r=>lns1 x++lns r
end
theorem lns1_eq(x:It):lns1 x=
 if x.kind=1 then[(0,textE x.ex++[59])]
 else if x.kind=2 then[(0,[115,111,102,116,32]++(textE x.ex++[59]))]
 else if x.kind=3 then[(0,[100,105,115,116,32]++(strT x.name++([32,123,32]++(wtsT x.ws++[32,125,59]))))]
 else if x.kind=4 then(0,[105,102,32,40]++(textE x.ex++[41,32,123]))::(upL (lns x.items)++((if x.els.isEmpty=true then[]else(0,[125,32,101,108,115,101,32,123])::upL (lns x.els))++[(0,[125])]))
 else if x.kind=5 then(0,[101,97,99,104,32]++(strT x.idx++([32,105,110,32]++(strT x.name++[32,123]))))::(upL (lns x.items)++[(0,[125])])
 else[(0,[115,111,108,118,101,32]++(sepT [44,32] (x.bef.map strT)++([32,98,101,102,111,114,101,32]++(sepT [44,32] (x.aft.map strT)++[59]))))]:=by
 cases x;rw[lns1];rfl
theorem lns_app(l m:List It):lns (l++m)=lns l++lns m:=by
 induction l with
 | nil=>rfl
 | cons a r ih=>rw[List.cons_append,lns,lns,ih,List.append_assoc]
theorem lnsT_app(k:Nat)(a b:List Ln):lnsT k (a++b)=lnsT k a++lnsT k b:=List.flatMap_append
theorem lnsT_up(k:Nat)(l:List Ln):lnsT k (upL l)=lnsT (k+1) l:=by
 unfold lnsT upL;rw[List.flatMap_map];congr 1;funext x;show blk (k+(x.1+1))++_=blk (k+1+x.1)++_;rw[show k+(x.1+1)=k+1+x.1 by omega]
structure LnOk(b:Bs):Prop where
 pr:prS b=true
 hd:∃c r,b=c::r∧c≠32
 last:∃c r,b=r++[c]∧c≠32
theorem ln_mk{b:Bs}(h:prS b=true){c d:UInt8}{r r':Bs}(h1:b=c::r)(hc:c≠32)(h2:b=r'++[d])(hd:d≠32):LnOk b:=⟨h,⟨c,r,h1,hc⟩,⟨d,r',h2,hd⟩⟩
theorem pr_sep(sep:Bs)(hs:prS sep=true):∀l:List Bs,(∀a,a∈l→prS a=true)→prS (sepT sep l)=true
 | [],_=>rfl
 | [a],h=>h a (by simp)
 | a::b::r,h=>by
  rw[sepT,prS_app,h a (by simp),prS_app,hs,pr_sep sep hs (b::r) fun x hx=>h x (by simp only[List.mem_cons]at hx ⊢;exact .inr hx)];rfl
theorem pr_num{n:Int}:prS (numT n)=true:=by
 unfold numT Lib.itoa;split
 ·rw[prS_cons,pr_dec];rfl
 ·exact pr_dec _
theorem pr_wt(w:Wt):prS (wtT w)=true:=by
 unfold wtT;rw[prS_app,pr_num,prS_app,prS_app,pr_num];split<;>split<;>(try rw[prS_app,pr_num])<;>rfl
theorem pr_var{s:ByteArray}(h:isVarB s=true):prS (strT s)=true:=by
 unfold isVarB at h;rw[Bool.or_eq_true]at h;rcases h with h|h
 ·obtain⟨g1,g2,g3,g4⟩:=elem_name h;unfold strT;rw[←g4];show prS (elemNm _ _).data.toList=true;unfold elemNm decS mark1;simp only[ByteArray.data_append,Array.toList_append];rw[prS_app,pr_name g1,prS_app,prS_app,pr_dec];rfl
 ·exact pr_name h
end Go.Proofs.YtcbahpllcfbkmaaGreatDoor
