import Derived.Test.YtcbahpllcfbkmaaGreatDoorSh
import Derived.Test.YtcbahpllcfbkmaaGreatDoorToks7
set_option linter.unusedVariables false
set_option linter.unusedSimpArgs false
set_option linter.unusedSectionVars false
namespace Go.Proofs.YtcbahpllcfbkmaaGreatDoor
open Go.RowKit
def prB(c:UInt8):Bool:=decide (32≤c.toNat)&&decide (c.toNat≤126)
def prS(l:Bs):Bool:=l.all prB
theorem aD(a b:Bs):prS (a++b)=(prS a&&prS b):=List.all_append
theorem dO(c:UInt8)(b:Bs):prS (c::b)=(prB c&&prS b):=List.all_cons
theorem zg{c:UInt8}(h1:32≤c.toNat)(h2:c.toNat≤126):prB c=true:=by
 unfold prB;rw[decide_eq_true h1,decide_eq_true h2];rfl
theorem eQ{s:ByteArray}(h:aL s=true):prS s.data.toList=true:=by
 have hw:=eE h;unfold prS;rw[List.all_eq_true];intro c hc;obtain⟨i,hi,rfl⟩:=List.getElem_of_mem hc;have hi':i<s.size:=by rw[Lib.size_eq];exact hi
 have hf:=kR hw hi';have he:=eo s i hi';rw[List.getElem?_eq_getElem hi]at he;rw[Option.some.inj he];generalize s[i]=c at hf;unfold dw ec gW mR at hf;simp only[Bool.or_eq_true,Bool.and_eq_true,decide_eq_true_eq]at hf;exact zg (by omega) (by omega)
theorem kC(u:Nat):prS (Lib.decDigits u)=true:=by
 induction u using Nat.strongRecOn with
 | _ u ih=>
 rw[Lib.decDigits];have hd:∀k,k<10→prB (UInt8.ofNat (48+k))=true:=by decide
 split
 ·rename_i h;rw[dO,hd _ h];rfl
 ·rename_i h;rw[aD,ih _ (by omega),dO,hd _ (by omega)];rfl
theorem kx{k:Nat}{x:Ex}(h:prS (aH x)=true):prS (opS k x)=true:=by
 unfold opS;split
 ·rw[dO,aD,h];rfl
 ·exact h
theorem ym:∀b,b∈dU→prS b.1.data.toList=true:=by decide +kernel
theorem nE:∀l:List Ex,(∀a,a∈l→prS (aH a)=true)→prS (cU l)=true
 | [],_=>rfl
 | [_],_=>rfl
 | [a,b],h=>by
  have h1:=h a (by simp);have h2:=h b (by simp);rw[cU,aD,h1,aD,h2];rfl
 | a::b::c::r,h=>by
  have h1:=h a (by simp);have h2:=h b (by simp);have h3:=nE (c::r) fun x hx=>h x (by simp only[List.mem_cons]at hx ⊢;exact .inr (.inr hx));rw[cU,aD,aD,h1,aD,h2,aD,h3];rfl
theorem mr(e:Ex):cu e=0→prS (aH e)=true:=by
 induction e using Ex.ind with
 | h o n s l ih=>
 intro he;have hs:=qy he;generalize hE:Ex.mk o n s l=E at hs;cases hs with
 | const n h0 h1=>rw[fu];exact kC _
 | var s h=>
  cases hE;rw[iJ];unfold aK at h;rw[Bool.or_eq_true]at h;split
  ·rename_i hel;obtain⟨g1,-⟩:=cP hel;rw[aD,eQ g1,dO,kC];rfl
  ·rename_i hel;exact eQ (h.resolve_left hel)
 | elem s x h hx=>
  cases hE;rw[gu,aD,eQ h,dO,aD,ih x (by simp) hx];rfl
 | pre o x h hx=>
  cases hE;have h3:prS (eH o)=true:=by rcases h with rfl|rfl|rfl<;>decide
  rw[iz h,aD,h3,kx (ih x (by simp) hx)];rfl
 | bin o m k x y h hx hy=>
  cases hE;have h3:=ym _ (i7 h);rw[iI h,aD,kx (ih x (by simp) hx),dO,aD,h3,dO,kx (ih y (by simp) hy)];rfl
 | ite x y z hx hy hz=>
  cases hE;rw[jR,aD,kx (ih x (by simp) hx),aD,aD,kx (ih y (by simp) hy),aD,kx (ih z (by simp) hz)];rfl
 | inside x l hx hl hev hne h32=>
  cases hE;rw[eS,aD,kx (ih x (by simp) hx),aD,aD,nE l fun a ha=>ih a (by simp[ha]) (hl a ha)];rfl
 | sum s h=>
  cases hE;rw[ir,aD,aD,eQ h];rfl
 | ones x hx=>
  cases hE;rw[gr,aD,aD,ih x (by simp) hx];rfl
abbrev Ln:=Nat×Bs
def blk(k:Nat):Bs:=List.replicate (4*k) 32
def lnT(k:Nat)(x:Ln):Bs:=blk (k+x.1)++(x.2++[10])
def aO(k:Nat)(l:List Ln):Bs:=l.flatMap (lnT k)
def upL(l:List Ln):List Ln:=l.map fun x=>(x.1+1,x.2)
def fO(n:Int):Bs:=Lib.itoa n
def dZ(sep:Bs):List Bs→Bs
 | []=>[]
 | [a]=>a
 | a::b::r=>a++(sep++dZ sep (b::r))
def wtT(w:Wt):Bs:=fO w.lo++((if w.hi=w.lo then[]else[32,46,46,32]++fO w.hi)++((if w.each=true then[32,58,61,32]else[32,58,47,32])++fO w.w))
def jf(l:List Wt):Bs:=dZ [44,32] (l.map wtT)
def aQ(s:ByteArray):Bs:=s.data.toList
mutual
def dT:It→List Ln
 | .mk k e nm ix ws l m bf af=>
  if k=1 then[(0,aH e++[59])]
  else if k=2 then[(0,[115,111,102,116,32]++(aH e++[59]))]
  else if k=3 then[(0,[100,105,115,116,32]++(aQ nm++([32,123,32]++(jf ws++[32,125,59]))))]
  else if k=4 then(0,[105,102,32,40]++(aH e++[41,32,123]))::(upL (lns l)++((if m.isEmpty=true then[]else(0,[125,32,101,108,115,101,32,123])::upL (lns m))++[(0,[125])]))
  else if k=5 then(0,[101,97,99,104,32]++(aQ ix++([32,105,110,32]++(aQ nm++[32,123]))))::(upL (lns l)++[(0,[125])])
  else[(0,[115,111,108,118,101,32]++(dZ [44,32] (bf.map aQ)++([32,98,101,102,111,114,101,32]++(dZ [44,32] (af.map aQ)++[59]))))]
def lns:List It→List Ln
 | []=>[]
 | x::r=>dT x++lns r
end
theorem eP(x:It):dT x=
 if x.kind=1 then[(0,aH x.ex++[59])]
 else if x.kind=2 then[(0,[115,111,102,116,32]++(aH x.ex++[59]))]
 else if x.kind=3 then[(0,[100,105,115,116,32]++(aQ x.name++([32,123,32]++(jf x.ws++[32,125,59]))))]
 else if x.kind=4 then(0,[105,102,32,40]++(aH x.ex++[41,32,123]))::(upL (lns x.items)++((if x.els.isEmpty=true then[]else(0,[125,32,101,108,115,101,32,123])::upL (lns x.els))++[(0,[125])]))
 else if x.kind=5 then(0,[101,97,99,104,32]++(aQ x.idx++([32,105,110,32]++(aQ x.name++[32,123]))))::(upL (lns x.items)++[(0,[125])])
 else[(0,[115,111,108,118,101,32]++(dZ [44,32] (x.bef.map aQ)++([32,98,101,102,111,114,101,32]++(dZ [44,32] (x.aft.map aQ)++[59]))))]:=by
 cases x;rw[dT];rfl
theorem mq(l m:List It):lns (l++m)=lns l++lns m:=by
 induction l with
 | nil=>rfl
 | cons a r ih=>rw[List.cons_append,lns,lns,ih,List.append_assoc]
theorem bw(k:Nat)(a b:List Ln):aO k (a++b)=aO k a++aO k b:=List.flatMap_append
theorem eN(k:Nat)(l:List Ln):aO k (upL l)=aO (k+1) l:=by
 unfold aO upL;rw[List.flatMap_map];congr 1;funext x;show blk (k+(x.1+1))++_=blk (k+1+x.1)++_;rw[show k+(x.1+1)=k+1+x.1 by omega]
structure LnOk(b:Bs):Prop where
 pr:prS b=true
 hd:∃c r,b=c::r∧c≠32
 last:∃c r,b=r++[c]∧c≠32
theorem iw{b:Bs}(h:prS b=true){c d:UInt8}{r r':Bs}(h1:b=c::r)(hc:c≠32)(h2:b=r'++[d])(hd:d≠32):LnOk b:=⟨h,⟨c,r,h1,hc⟩,⟨d,r',h2,hd⟩⟩
theorem pE(sep:Bs)(hs:prS sep=true):∀l:List Bs,(∀a,a∈l→prS a=true)→prS (dZ sep l)=true
 | [],_=>rfl
 | [a],h=>h a (by simp)
 | a::b::r,h=>by
  rw[dZ,aD,h a (by simp),aD,hs,pE sep hs (b::r) fun x hx=>h x (by simp only[List.mem_cons]at hx ⊢;exact .inr hx)];rfl
theorem pW{n:Int}:prS (fO n)=true:=by
 unfold fO Lib.itoa;split
 ·rw[dO,kC];rfl
 ·exact kC _
theorem BC(w:Wt):prS (wtT w)=true:=by
 unfold wtT;rw[aD,pW,aD,aD,pW];split<;>split<;>(try rw[aD,pW])<;>rfl
theorem tD{s:ByteArray}(h:aK s=true):prS (aQ s)=true:=by
 unfold aK at h;rw[Bool.or_eq_true]at h;rcases h with h|h
 ·obtain⟨g1,g2,g3,g4⟩:=cP h;unfold aQ;rw[←g4];show prS (fU _ _).data.toList=true;unfold fU pX aR;simp only[ByteArray.data_append,Array.toList_append];rw[aD,eQ g1,aD,aD,kC];rfl
 ·exact eQ h
end Go.Proofs.YtcbahpllcfbkmaaGreatDoor
