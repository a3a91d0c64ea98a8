import Derived.Test.YthekkgfmagliiaaGreatDoorTProp
import Derived.Test.YthekkgfmagliiaaGreatDoorSh
set_option linter.unusedVariables false
set_option linter.unusedSimpArgs false
set_option linter.unusedSectionVars false
namespace Go.Proofs.YthekkgfmagliiaaGreatDoor
open Go.RowKit
theorem qM{e:Ex}(h:bc e=0):cZ e=0:=by
 unfold bc at h;split at h
 ·cases h
 ·exact h
def kU(n:Int):Bs:=Lib.itoa n
def dl(sep:Bs):List Bs→Bs
 | []=>[]
 | [a]=>a
 | a::b::r=>a++(sep++dl sep (b::r))
def mO(s:ByteArray):Bs:=s.data.toList
def lvT(o:Int):Int:=if o=4 then 1 else if o=5 then 2 else if o=2 then 3 else if o=7 then 4 else if o=3 then 5 else 6
def atS(k:Int)(x:Int×Bs):Bs:=if lvT x.1<k then 40::(x.2++[41])else x.2
def dW(lo hi:Int):Bs:=if lo=hi then kU lo else kU lo++58::kU hi
def lm(lo hi:Int):Bs:=if lo=hi then dW lo hi else 91::(dW lo hi++[93])
def bY(o lo hi:Int)(e:Ex)(n:ByteArray)(xs:List (Int×Bs)):Bs:=
 if o=4 then dl [32,111,114,32] (xs.map (atS 2))
 else if o=5 then dl [32,97,110,100,32] (xs.map (atS 3))
 else if o=2 then atS 3 (xs.getD 0 (1,[]))++32::35::35::(lm lo hi++32::atS 4 (xs.getD 1 (1,[])))
 else if o=7 then 104::111::108::100::32::123::(aJ e++125::32::105::110::32::atS 4 (xs.getD 0 (1,[])))
 else if o=3 then atS 5 (xs.getD 0 (1,[]))++32::91::42::(dW lo hi++[93])
 else if o=6 then 40::((xs.getD 0 (1,[])).2++44::32::(mO n++32::61::32::(aJ e++[41])))
 else 123::(aJ e++[125])
mutual
def cl:Ts→Bs
 | .mk o lo hi e n l=>bY o lo hi e n (tg l)
def tg:List Ts→List (Int×Bs)
 | []=>[]
 | s::r=>(s.op,cl s)::tg r
end
theorem u6(l:List Ts):tg l=l.map fun s=>(s.op,cl s):=by
 induction l with
 | nil=>rfl
 | cons a r ih=>simp only[tg,ih,List.map_cons]
theorem nX(s:Ts):cl s=bY s.op s.lo s.hi s.ex s.name (s.args.map fun a=>(a.op,cl a)):=by
 cases s;simp only[cl,u6,Ts.op,Ts.lo,Ts.hi,Ts.ex,Ts.name,Ts.args]
def bz(k:Int)(s:Ts):Bs:=atS k (s.op,cl s)
theorem jO(k:Int)(l:List Ts):(l.map fun a=>(a.op,cl a)).map (atS k)=l.map (bz k):=by rw[List.map_map];rfl
def OkT(s:Ts):Prop:=∃b,cN s b=0
theorem cY{s:Ts}(h:b7 s=0):OkT s:=by
 unfold b7 at h;split at h
 ·omega
 ·exact⟨_,h⟩
theorem p8{l:List Ts}{b:Bool}(h:eM l b=0):∀a,a∈l→cN a b=0:=by
 induction l with
 | nil=>intro a ha;cases ha
 | cons x r ih=>
  rw[eM]at h;split at h
  ·rename_i h0;intro a ha;rcases List.mem_cons.1 ha with rfl|ha
   ·exact h0
   ·exact ih h a ha
  ·rename_i hn;exact absurd h hn
theorem OkT.node{s:Ts}(h:OkT s):∃b,dD s b=0:=by
 obtain⟨b,h⟩:=h;rw[gW]at h;split at h
 ·rename_i h0;exact⟨b,h0⟩
 ·exact⟨b,h⟩
theorem OkT.arg{s a:Ts}(h:OkT s)(ha:a∈s.args):OkT a:=by
 obtain⟨b,h⟩:=h;rw[gW]at h;split at h
 ·exact⟨_,p8 h a ha⟩
 ·rename_i hn;exact absurd h hn
structure NdT(s:Ts):Prop where
 sh:(s.op=1∧s.args=[]∧s.lo=0∧s.hi=0)∨(s.op=2∧(∃a b,s.args=[a,b])∧0≤s.lo∧s.lo≤s.hi∧s.hi≤16)∨(s.op=3∧(∃a,s.args=[a])∧1≤s.lo∧s.lo≤s.hi∧s.hi≤16)∨
  ((s.op=4∨s.op=5)∧2≤s.args.length∧s.args.length≤8∧s.lo=0∧s.hi=0)∨((s.op=6∨s.op=7)∧(∃a,s.args=[a])∧s.lo=0∧s.hi=0)
 ex:s.op=1∨s.op=6∨s.op=7→bc s.ex=0
 zx:¬(s.op=1∨s.op=6∨s.op=7)→s.ex=.mk 0 0 ⟨#[]⟩ []
 nm:s.op=6→bj s.name=true
 zn:s.op≠6→s.name=⟨#[]⟩
theorem s9{α:Type}{l:List α}(h:l.length=1):∃a,l=[a]:=List.length_eq_one_iff.1 h
theorem Aj{α:Type}{l:List α}(h:l.length=2):∃a b,l=[a,b]:=by
 match l,h with
 | [a,b],_=>exact⟨a,b,rfl⟩
theorem xy{e:Ex}(h:eC e=true):e=.mk 0 0 ⟨#[]⟩ []:=by
 unfold eC at h;simp only[Bool.and_eq_true,decide_eq_true_eq]at h;cases e with
 | mk o n m l=>
  obtain⟨h1,h2,h3,h4⟩:=h;simp only[Ex.op,Ex.num,Ex.name,Ex.args]at h1 h2 h3 h4;rw[h1,h2,h3,List.eq_nil_of_length_eq_zero h4]
theorem OkT.nd{s:Ts}(h:OkT s):NdT s:=by
 obtain⟨b,h⟩:=h.node;unfold dD at h;by_cases h1:(!dM s||((!bX s.op && !eC s.ex)||(decide (s.op≠6)&&decide (s.name≠⟨#[]⟩))))=true
 ·rw[if_pos h1]at h;omega
 rw[if_neg h1]at h;by_cases h2:(decide (s.op=6) && !bj s.name)=true
 ·rw[if_pos h2]at h;omega
 rw[if_neg h2]at h;by_cases h3:bX s.op=true∧bc s.ex≠0
 ·rw[if_pos h3]at h;exact absurd h h3.2
 simp only[Bool.or_eq_true,Bool.and_eq_true,Bool.not_eq_true',decide_eq_true_eq,not_or,not_and,Bool.not_eq_false]at h1 h2;obtain⟨s1,s2,s3⟩:=h1;have wr:bX s.op=true↔(s.op=1∨s.op=6∨s.op=7):=by unfold bX;simp[Bool.or_eq_true]
 refine⟨?_,fun g=>?_,fun g=>?_,fun g=>?_,fun g=>?_⟩
 ·unfold dM cP ft at s1;split at s1
  ·rename_i o1;simp only[Bool.and_eq_true,decide_eq_true_eq]at s1;exact .inl ⟨o1,List.eq_nil_of_length_eq_zero s1.1,s1.2.1,s1.2.2⟩
  split at s1
  ·rename_i o1;simp only[Bool.and_eq_true,decide_eq_true_eq]at s1;exact .inr (.inl ⟨o1,Aj s1.1,s1.2.1,s1.2.2.1,s1.2.2.2⟩)
  split at s1
  ·rename_i o1;simp only[Bool.and_eq_true,decide_eq_true_eq]at s1;exact .inr (.inr (.inl ⟨o1,s9 s1.1,s1.2.1,s1.2.2.1,s1.2.2.2⟩))
  split at s1
  ·rename_i o1;simp only[Bool.and_eq_true,decide_eq_true_eq]at s1;exact .inr (.inr (.inr (.inl ⟨o1,s1.1.1,s1.1.2,s1.2.1,s1.2.2⟩)))
  split at s1
  ·rename_i o1;simp only[Bool.and_eq_true,decide_eq_true_eq]at s1;exact .inr (.inr (.inr (.inr ⟨o1,s9 s1.1,s1.2.1,s1.2.2⟩)))
  ·cases s1
 ·apply Classical.byContradiction;intro hv;exact h3 ⟨wr.2 g,hv⟩
 ·have:bX s.op=false:=by
   cases hw:bX s.op with
   | false=>rfl
   | true=>exact absurd (wr.1 hw) g
  exact xy (s2 this)
 ·exact h2 g
 ·apply Classical.byContradiction;intro hv;exact s3 g hv
theorem dF{n:Int}(h0:0≤n)(h1:n≤16):(kU n).length≤2:=by
 have:∀k:Nat,k≤16→(kU (k:Int)).length≤2:=by decide +kernel
 obtain⟨k,rfl⟩:=Int.eq_ofNat_of_zero_le h0;exact this k (by omega)
theorem j0(k:Int)(x:Int×Bs):(atS k x).length≤x.2.length+2:=by
 unfold atS;split
 ·simp
 ·omega
theorem ju{lo hi:Int}(h0:0≤lo)(h1:lo≤hi)(h2:hi≤16):(dW lo hi).length≤5∧(lm lo hi).length≤7:=by
 have a:=dF h0 (by omega);have b:=dF (show 0≤hi by omega) h2
 have c:(dW lo hi).length≤5:=by
  unfold dW;split
  ·omega
  ·simp;omega
 refine⟨c,?_⟩;unfold lm;split
 ·omega
 ·simp;omega
theorem lg(sep:Bs)(k:Int)(c:Nat)(hs:sep.length≤5):∀l:List Ts,(∀a,a∈l→(cl a).length+20≤80*bC a)→(dl sep (l.map (bz k))).length+13*l.length≤80*cQ l
 | [],_=>by simp[dl,cQ]
 | [a],h=>by
  have h1:=h a (by simp);have h2:=j0 k (a.op,cl a);simp only[List.map_cons,List.map_nil,dl,cQ,List.length_cons,List.length_nil];unfold bz;simp only at h2;omega
 | a::b::r,h=>by
  have h1:=h a (by simp);have h2:=j0 k (a.op,cl a);have h3:=lg sep k c hs (b::r) fun x hx=>h x (by simp only[List.mem_cons]at hx ⊢;exact .inr hx);simp only[List.map_cons,dl,cQ,List.length_cons,List.length_append]at h3 ⊢;unfold bz at h3 ⊢;simp only at h2;omega
theorem eQ(s:Ts):OkT s→(cl s).length+20≤80*bC s:=by
 induction s using Ts.ind with
 | h s ih=>
 intro hs;have hn:=hs.nd;have hb:=dJ s;rw[nX,hb];have harg:=fun a ha=>ih a ha (hs.arg ha);have htx:s.op=1∨s.op=6∨s.op=7→(aJ s.ex).length+20≤64*ba s.ex:=fun g=>lV _ (qM (hn.ex g));have hnm:s.op=6→(mO s.name).length≤16:=fun g=>cT (hn.nm g);have one:∀a,s.args=[a]→cQ s.args=bC a∧(cl a).length+20≤80*bC a:=fun a e=>⟨by rw[e];simp[cQ],harg a (by rw[e];simp)⟩
 rcases hn.sh with⟨o,h⟩|⟨o,⟨a,b,h⟩,h0,h1,h2⟩|⟨o,⟨a,h⟩,h0,h1,h2⟩|⟨o,h0,h1,h2⟩|⟨o,⟨a,h⟩,h0,h1⟩
 ·have:=htx (.inl o);unfold bY;rw[o];simp[h.1,cQ];omega
 ·have e1:=harg a (by rw[h];simp);have e2:=harg b (by rw[h];simp);have e3:cQ s.args=bC a+bC b:=by rw[h];simp[cQ]
  have e4:=(ju h0 h1 h2).2;have e5:=j0 3 (a.op,cl a);have e6:=j0 4 (b.op,cl b);unfold bY;rw[o,h]at *;simp at e5 e6 ⊢;omega
 ·obtain⟨e0,e1⟩:=one a h;have e4:=(ju (show 0≤s.lo by omega) h1 h2).1;have e5:=j0 5 (a.op,cl a);unfold bY;rw[o,h]at *;simp at e5 ⊢;omega
 ·unfold bY;rcases o with o|o
  ·rw[o,if_pos rfl,jO];have:=lg [32,111,114,32] 2 0 (by decide) s.args harg;omega
  ·rw[o,if_neg (by decide),if_pos rfl,jO];have:=lg [32,97,110,100,32] 3 0 (by decide) s.args harg;omega
 ·obtain⟨e0,e1⟩:=one a h;rcases o with o|o
  ·have:=htx (.inr (.inl o));have:=hnm o;unfold bY;rw[o,h]at *;simp;omega
  ·have:=htx (.inr (.inr o));have e5:=j0 4 (a.op,cl a);unfold bY;rw[o,h]at *;simp at e5 ⊢;omega
def yf(s:Ts):Bs:=if b7 s=0 then cl s else[]
def w8(p:Pr):Bs:=[112,114,111,112,101,114,116,121,32]++(mO p.name++(58::32::((if p.plain=true then[112,108,97,105,110,32]else cl p.cond++(if p.over=true then[32,124,45,62,32]else[32,124,61,62,32]))++(cl p.then_++[59]))))
def nf(p:Pr):Bs:=if c6 p=0 then w8 p else[]
structure PrV(p:Pr):Prop where
 nm:bj p.name=true
 pl:p.plain=true→p.over=false∧p.cond=zT
 co:p.plain=false→b7 p.cond=0
 th:b7 p.then_=0
theorem xP{p:Pr}(h:c6 p=0):PrV p:=by
 unfold c6 at h;by_cases h1:bj p.name=false
 ·rw[if_pos h1]at h;omega
 rw[if_neg h1]at h;by_cases h2:p.plain=true∧(p.over=true∨dw p.cond=false)
 ·rw[if_pos h2]at h;omega
 rw[if_neg h2]at h;by_cases h3:p.plain=false∧b7 p.cond≠0
 ·rw[if_pos h3]at h;exact absurd h h3.2
 rw[if_neg h3]at h;refine⟨by cases hn:bj p.name<;>simp_all,fun g=>⟨?_,?_⟩,fun g=>?_,h⟩
 ·cases ho:p.over with
  | false=>rfl
  | true=>exact absurd ⟨g,.inl ho⟩ h2
 ·have he:dw p.cond=true:=by
   cases hh:dw p.cond with
   | true=>rfl
   | false=>exact absurd ⟨g,.inr hh⟩ h2
  rw[←lE]at he;exact(jB _ _).1 he
 ·apply Classical.byContradiction;intro hv;exact h3 ⟨g,hv⟩
end Go.Proofs.YthekkgfmagliiaaGreatDoor
