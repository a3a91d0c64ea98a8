import Derived.Test.YthekkgfmagliiaaGreatDoorLq
import Derived.Test.YthekkgfmagliiaaGreatDoorTProp
set_option linter.unusedVariables false
set_option linter.unusedSimpArgs false
set_option linter.unusedSectionVars false
namespace Go.Proofs.YthekkgfmagliiaaGreatDoor
open Go.RowKit
inductive Sh:Ex→Prop where
 | const (n:Int) (h0:0≤n) (h1:n≤65535):Sh (.mk 1 n ⟨#[]⟩ [])
 | var (s:ByteArray) (h:ez s=true):Sh (.mk 2 0 s [])
 | elem (s:ByteArray) (x:Ex) (h:a8 s=true) (hx:dz x=0):Sh (.mk 3 0 s [x])
 | pre (o:Int) (x:Ex) (h:o=4∨o=5∨o=6) (hx:dz x=0):Sh (.mk o 0 ⟨#[]⟩ [x])
 | bin (o:Int) (m:ByteArray) (k:Nat) (x y:Ex) (h:fD o=some (m,k)) (hx:dz x=0) (hy:dz y=0):Sh (.mk o 0 ⟨#[]⟩ [x,y])
 | ite (x y z:Ex) (hx:dz x=0) (hy:dz y=0) (hz:dz z=0):Sh (.mk 22 0 ⟨#[]⟩ [x,y,z])
 | inside (x:Ex) (l:List Ex) (hx:dz x=0) (hl:∀a,a∈l→dz a=0) (hev:l.length%2=0) (hne:2≤l.length) (h32:l.length≤32):Sh (.mk 23 0 ⟨#[]⟩ (x::l))
 | sum (s:ByteArray) (h:a8 s=true):Sh (.mk 24 0 s [])
 | ones (x:Ex) (hx:dz x=0):Sh (.mk 25 0 ⟨#[]⟩ [x])
theorem GG{e:Ex}(he:dz e=0):Sh e:=by
 obtain⟨o,n,s,l⟩:=e;obtain⟨hnode,hargs⟩:=kB he;obtain⟨o1,o25,hc,hop,hvar,hname,hn0,hs0⟩:=kM hnode;by_cases c1:o=1
 ·subst c1;have hl:l=[]:=List.eq_nil_of_length_eq_zero (by simpa[bK,cy]using hop);have hs:s=⟨#[]⟩:=hs0 (by decide);subst hl;subst hs;obtain⟨h0,h1⟩:=hc rfl;exact .const n h0 h1
 have hn:n=0:=hn0 c1;subst hn;by_cases c2:o=2
 ·subst c2;have hl:l=[]:=List.eq_nil_of_length_eq_zero (by simpa[bK,cy]using hop);subst hl;exact .var s (hvar rfl)
 by_cases c3:o=3
 ·subst c3;have hnm:=hname (.inl rfl)
  have hl:l.length=1:=by have:(l.length:Int)=1:=by simpa[bK,cy]using hop
                         omega
  obtain⟨x,rfl⟩:=List.length_eq_one_iff.1 hl;exact .elem s x hnm (hargs x (by simp))
 by_cases c24:o=24
 ·subst c24;have hl:l=[]:=List.eq_nil_of_length_eq_zero (by simpa[bK,cy]using hop);subst hl;exact .sum s (hname (.inr rfl))
 have hs:s=⟨#[]⟩:=hs0 (by unfold cR;simp[c2,c3,c24]);subst hs;by_cases c25:o=25
 ·subst c25
  have hl:l.length=1:=by have:(l.length:Int)=1:=by simpa[bK,cy]using hop
                         omega
  obtain⟨x,rfl⟩:=List.length_eq_one_iff.1 hl;exact .ones x (hargs x (by simp))
 by_cases c456:o=4∨o=5∨o=6
 ·have hl:l.length=1:=by
   have:(l.length:Int)=1:=by
    rcases c456 with rfl|rfl|rfl<;>simpa[bK,cy]using hop
   omega
  obtain⟨x,rfl⟩:=List.length_eq_one_iff.1 hl;exact .pre o x c456 (hargs x (by simp))
 by_cases c22:o=22
 ·subst c22
  have hl:l.length=3:=by have:(l.length:Int)=3:=by simpa[bK,cy]using hop
                         omega
  match l,hl,hargs with
  | [x,y,z],_,hargs=>exact .ite x y z (hargs x (by simp)) (hargs y (by simp)) (hargs z (by simp))
 by_cases c23:o=23
 ·subst c23
  have hl:l.length%2=1∧3≤l.length∧l.length≤33:=by
   have:(decide (l.length%2=1)&&decide (3≤l.length)&&decide (l.length≤33))=true:=by simpa[bK]using hop
   simp only[Bool.and_eq_true,decide_eq_true_eq]at this;exact⟨this.1.1,this.1.2,this.2⟩
  match l,hl,hargs with
  | x::m,⟨h1,h2,h3⟩,hargs=>
   simp only[List.length_cons]at h1 h2 h3;exact .inside x m (hargs x (by simp)) (fun a ha=>hargs a (by simp[ha])) (by omega) (by omega) (by omega)
 have hl:l.length=2:=by
  have:(l.length:Int)=2:=by
   have h1:(l.length:Int)=cy o:=by unfold bK at hop;rw[if_neg c23]at hop;exact of_decide_eq_true hop
   rw[h1];unfold cy;rw[if_neg (by omega),if_neg (by omega),if_neg c22,if_neg c23,if_neg (by omega)]
  omega
 match l,hl,hargs with
 | [x,y],_,hargs=>
  obtain⟨k,hk⟩:=Int.eq_ofNat_of_zero_le (show 0≤o by omega);have hb:=sH k (by omega) (by omega);rw[←hk]at hb;obtain⟨⟨m,p⟩,hp⟩:=Option.isSome_iff_exists.1 hb;exact .bin o m p x y hp (hargs x (by simp)) (hargs y (by simp))
def opS(k:Nat)(x:Ex):Bs:=if jD x.op<k then 40::(aX x++[41])else aX x
theorem iJ(k:Nat)(x:Ex):txt (fT k (x.op,pcE x))=opS k x:=by
 unfold fT opS;simp only;split
 ·rw[bY,bD,bY];rfl
 ·rfl
theorem dE(t:Tok)(X:Pc):txt (some t::X)=t.text.data.toList++txt X:=rfl
theorem cG(X:Pc):txt (none::X)=32::txt X:=rfl
theorem rv:txt []=[]:=rfl
theorem ot(n:Int):aX (.mk 1 n ⟨#[]⟩ [])=Lib.decDigits n.toNat:=by
 show txt [some (td n)]=_;rw[dE,rv,List.append_nil];rfl
theorem rg(s:ByteArray)(x:Ex):aX (.mk 3 0 s [x])=s.data.toList++91::(aX x++[93]):=by
 show txt (some (tn s)::some (tm (aj 91))::(pcE x++[some (tm (aj 93))]))=_;rw[dE,bY,bD,bY];rfl
theorem uT(s:ByteArray):aX (.mk 24 0 s [])=[115,117,109,40]++(s.data.toList++[41]):=by
 show txt [some (tn kP),some (tm (aj 40)),some (tn s),some (tm (aj 41))]=_;rw[dE,bY,dE,bY];rfl
theorem qo(x:Ex):aX (.mk 25 0 ⟨#[]⟩ [x])=[111,110,101,115,40]++(aX x++[41]):=by
 show txt (some (tn gC)::some (tm (aj 40))::(pcE x++[some (tm (aj 41))]))=_;rw[dE,bY,bD,bY];rfl
theorem xG(x y z:Ex):aX (.mk 22 0 ⟨#[]⟩ [x,y,z])=opS 2 x++([32,63,32]++(opS 1 y++([32,58,32]++opS 1 z))):=by
 show txt (fT 2 (x.op,pcE x)++none::some (tm (aj 63))::none::(fT 1 (y.op,pcE y)++none::some (tm (aj 58))::none::fT 1 (z.op,pcE z)))=_;rw[bD,cG,bY,cG,bD,cG,bY,cG,iJ,iJ,iJ];rfl
theorem uj{o:Int}{m:ByteArray}{k:Nat}(h:fD o=some (m,k))(x y:Ex):aX (.mk o 0 ⟨#[]⟩ [x,y])=opS (if k=2 then 3 else k) x++(32::(m.data.toList++(32::opS (if k=2 then 2 else k+1) y))):=by
 show txt (jj o 0 ⟨#[]⟩ [(x.op,pcE x),(y.op,pcE y)])=_;unfold jj;rw[h];simp only;rw[bD,cG,dE,cG];show txt (fT _ (x.op,pcE x))++(32::(m.data.toList++(32::txt (fT _ (y.op,pcE y)))))=_;rw[iJ,iJ]
theorem EW:∀o,o∈[(4:Int),5,6]→fD o=none:=by decide +kernel
def ig(o:Int):Bs:=if o=4 then[33]else if o=5 then[126]else if o=6 then[45]else[]
theorem tT{o:Int}(h:o=4∨o=5∨o=6)(x:Ex):aX (.mk o 0 ⟨#[]⟩ [x])=ig o++opS 13 x:=by
 rcases h with rfl|rfl|rfl
 ·show txt (some (tm (aj 33))::fT 13 (x.op,pcE x))=_;rw[bY,iJ];rfl
 ·show txt (some (tm (aj 126))::fT 13 (x.op,pcE x))=_;rw[bY,iJ];rfl
 ·show txt (some (tm (aj 45))::fT 13 (x.op,pcE x))=_;rw[bY,iJ];rfl
def eJ:List Ex→Bs
 | []=>[]
 | [_]=>[]
 | [a,b]=>aX a++([32,46,46,32]++aX b)
 | a::b::c::r=>(aX a++([32,46,46,32]++aX b))++([44,32]++eJ (c::r))
theorem qY:∀l:List Ex,txt (fw (ry l))=eJ l
 | []=>rfl
 | [_]=>rfl
 | [a,b]=>by
  show txt (pcE a++none::some (tm (aO 46 46))::none::pcE b)=_;rw[bD,cG,dE,cG];rfl
 | a::b::c::r=>by
  have:=qY (c::r);show txt (pcE a++none::some (tm (aO 46 46))::none::(pcE b++some (tm (aj 44))::none::fw (ry (c::r))))=_;rw[bD,cG,dE,cG,bD,bY,cG,this];simp only[eJ,aX,List.append_assoc];rfl
theorem na(x:Ex)(l:List Ex):aX (.mk 23 0 ⟨#[]⟩ (x::l))=opS 9 x++([32,105,110,115,105,100,101,32,123,32]++(eJ l++[32,125])):=by
 show txt (fT 9 (x.op,pcE x)++none::some (tw bU)::none::some (tm (aj 123))::none::(fw (ry l)++[none,some (tm (aj 125))]))=_;rw[bD,cG,dE,cG,bY,cG,bD,qY,cG,bY,iJ];rfl
theorem um(s:ByteArray):aX (.mk 2 0 s [])=if fW s=true then(gD s 91).data.toList++64::Lib.decDigits (c6 s).toNat else s.data.toList:=by
 show txt ((kw s).map some)=_;unfold kw;split
 ·show txt [some (tn (gD s 91)),some (tm (aj 64)),some (td (c6 s))]=_;rw[dE,bY,dE,rv,List.append_nil];rfl
 ·show txt [some (tn s)]=_;rw[dE,rv,List.append_nil];rfl
theorem iK(k:Nat)(x:Ex):(opS k x).length≤(aX x).length+2:=by
 unfold opS;split
 ·simp only[List.length_cons,List.length_append,List.length_nil];omega
 ·omega
theorem fF{s:ByteArray}(h:a8 s=true):s.data.toList.length≤16:=by
 simp only[a8,Bool.and_eq_true,decide_eq_true_eq]at h;have:=h.1.2;rw[Lib.size_eq]at this;exact this
theorem pg(u:Nat)(h:u≤65535):(Lib.decDigits u).length≤5:=by
 have H:∀(k u:Nat),u<10^(k+1)→(Lib.decDigits u).length≤k+1:=by
  intro k
  induction k with
  | zero=>intro u h;rw[Lib.decDigits,dif_pos (by simpa using h)];simp
  | succ k ih=>
   intro u h;rw[Lib.decDigits];split
   ·simp
   ·have:=ih (u/10) (by rw[Nat.pow_succ]at h;omega);rw[List.length_append,List.length_singleton];omega
 exact H 4 u (by omega)
theorem De:∀b,b∈cv→b.1.data.toList.length≤2:=by decide +kernel
theorem tq:∀l:List Ex,(∀a,a∈l→(aX a).length+20≤64*aQ a)→(eJ l).length+10*l.length≤64*aV l
 | [],_=>by simp[eJ,aV]
 | [a],h=>by have:=h a (by simp);simp only[eJ,aV,List.length_nil,List.length_cons];omega
 | [a,b],h=>by
  have h1:=h a (by simp);have h2:=h b (by simp);simp only[eJ,aV,List.length_nil,List.length_cons,List.length_append];omega
 | a::b::c::r,h=>by
  have h1:=h a (by simp);have h2:=h b (by simp);have h3:=tq (c::r) fun x hx=>h x (by simp only[List.mem_cons]at hx ⊢;exact .inr (.inr hx));simp only[eJ,aV,List.length_nil,List.length_cons,List.length_append]at h3 ⊢;omega
theorem tX(e:Ex):dz e=0→(aX e).length+20≤64*aQ e:=by
 induction e using Ex.ind with
 | h o n s l ih=>
 intro he;have hs:=GG he;generalize hE:Ex.mk o n s l=E at hs;cases hs with
 | const n h0 h1=>
  have:=pg n.toNat (by omega);rw[ot];simp only[aQ,aV];omega
 | var s h=>
  cases hE;rw[um];unfold ez at h;rw[Bool.or_eq_true]at h;simp only[aQ,aV];split
  ·rename_i hel;obtain⟨g1,g2,g3,g4⟩:=jS hel;have h1:=fF g1;have h2:=pg (c6 s).toNat (by omega);simp only[List.length_append,List.length_cons];omega
  ·rename_i hel;have h1:=fF (h.resolve_left hel);omega
 | elem s x h hx=>
  cases hE;have h1:=ih x (by simp) hx;have h2:=fF h;rw[rg];simp only[aQ,aV,List.length_append,List.length_cons,List.length_nil];omega
 | pre o x h hx=>
  cases hE;have h1:=ih x (by simp) hx;have h2:=iK 13 x;have h3:(ig o).length≤1:=by rcases h with rfl|rfl|rfl<;>decide
  rw[tT h];simp only[aQ,aV,List.length_append];omega
 | bin o m k x y h hx hy=>
  cases hE;have h1:=ih x (by simp) hx;have h2:=ih y (by simp) hy;have h3:=De _ (ip h);have h4:=iK (if k=2 then 3 else k) x;have h5:=iK (if k=2 then 2 else k+1) y;rw[uj h];simp only[aQ,aV,List.length_append,List.length_cons]at h3 ⊢;omega
 | ite x y z hx hy hz=>
  cases hE;have h1:=ih x (by simp) hx;have h2:=ih y (by simp) hy;have h3:=ih z (by simp) hz;have h4:=iK 2 x;have h5:=iK 1 y;have h6:=iK 1 z;rw[xG];simp only[aQ,aV,List.length_append,List.length_cons,List.length_nil];omega
 | inside x l hx hl hev hne h32=>
  cases hE;have h1:=ih x (by simp) hx;have h2:=tq l fun a ha=>ih a (by simp[ha]) (hl a ha);have h4:=iK 9 x;rw[na];simp only[aQ,aV,List.length_append,List.length_cons,List.length_nil];omega
 | sum s h=>
  cases hE;have h2:=fF h;rw[uT];simp only[aQ,aV,List.length_append,List.length_cons,List.length_nil];omega
 | ones x hx=>
  cases hE;have h1:=ih x (by simp) hx;rw[qo];simp only[aQ,aV,List.length_append,List.length_cons,List.length_nil];omega
theorem ji{e:Ex}(h:bd e=0):dz e=0:=by
 unfold bd at h;split at h
 ·cases h
 ·exact h
def qg(n:Int):Bs:=Lib.itoa n
def kh(sep:Bs):List Bs→Bs
 | []=>[]
 | [a]=>a
 | a::b::r=>a++(sep++kh sep (b::r))
def p9(s:ByteArray):Bs:=s.data.toList
def lvT(o:Int):Int:=if o=4 then 1 else if o=5 then 2 else if o=2 then 3 else if o=7 then 4 else if o=3 then 5 else 6
def atS(k:Int)(x:Int×Bs):Bs:=if lvT x.1<k then 40::(x.2++[41])else x.2
def gY(lo hi:Int):Bs:=if lo=hi then qg lo else qg lo++58::qg hi
def oQ(lo hi:Int):Bs:=if lo=hi then gY lo hi else 91::(gY lo hi++[93])
def cX(o lo hi:Int)(e:Ex)(n:ByteArray)(xs:List (Int×Bs)):Bs:=
 if o=4 then kh [32,111,114,32] (xs.map (atS 2))
 else if o=5 then kh [32,97,110,100,32] (xs.map (atS 3))
 else if o=2 then atS 3 (xs.getD 0 (1,[]))++32::35::35::(oQ lo hi++32::atS 4 (xs.getD 1 (1,[])))
 else if o=7 then 104::111::108::100::32::123::(aX e++125::32::105::110::32::atS 4 (xs.getD 0 (1,[])))
 else if o=3 then atS 5 (xs.getD 0 (1,[]))++32::91::42::(gY lo hi++[93])
 else if o=6 then 40::((xs.getD 0 (1,[])).2++44::32::(p9 n++32::61::32::(aX e++[41])))
 else 123::(aX e++[125])
mutual
def dK:Ts→Bs
 | .mk o lo hi e n l=>cX o lo hi e n (x8 l)
def x8:List Ts→List (Int×Bs)
 | []=>[]
 | s::r=>(s.op,dK s)::x8 r
end
theorem BD(l:List Ts):x8 l=l.map fun s=>(s.op,dK s):=by
 induction l with
 | nil=>rfl
 | cons a r ih=>simp only[x8,ih,List.map_cons]
theorem rP(s:Ts):dK s=cX s.op s.lo s.hi s.ex s.name (s.args.map fun a=>(a.op,dK a)):=by
 cases s;simp only[dK,BD,Ts.op,Ts.lo,Ts.hi,Ts.ex,Ts.name,Ts.args]
def fm(k:Int)(s:Ts):Bs:=atS k (s.op,dK s)
theorem mC(k:Int)(l:List Ts):(l.map fun a=>(a.op,dK a)).map (atS k)=l.map (fm k):=by rw[List.map_map];rfl
def OkT(s:Ts):Prop:=∃b,dq s b=0
theorem cE{s:Ts}(h:cq s=0):OkT s:=by
 unfold cq at h;split at h
 ·omega
 ·exact⟨_,h⟩
theorem tf{l:List Ts}{b:Bool}(h:gf l b=0):∀a,a∈l→dq a b=0:=by
 induction l with
 | nil=>intro a ha;cases ha
 | cons x r ih=>
  rw[gf]at h;split at h
  ·rename_i h0;intro a ha;rcases List.mem_cons.1 ha with rfl|ha
   ·exact h0
   ·exact ih h a ha
  ·rename_i hn;exact absurd h hn
theorem OkT.node{s:Ts}(h:OkT s):∃b,eB s b=0:=by
 obtain⟨b,h⟩:=h;rw[jO]at h;split at h
 ·rename_i h0;exact⟨b,h0⟩
 ·exact⟨b,h⟩
theorem OkT.arg{s a:Ts}(h:OkT s)(ha:a∈s.args):OkT a:=by
 obtain⟨b,h⟩:=h;rw[jO]at h;split at h
 ·exact⟨_,tf h a ha⟩
 ·rename_i hn;exact absurd h hn
structure NdT(s:Ts):Prop where
 sh:(s.op=1∧s.args=[]∧s.lo=0∧s.hi=0)∨(s.op=2∧(∃a b,s.args=[a,b])∧0≤s.lo∧s.lo≤s.hi∧s.hi≤16)∨(s.op=3∧(∃a,s.args=[a])∧1≤s.lo∧s.lo≤s.hi∧s.hi≤16)∨
  ((s.op=4∨s.op=5)∧2≤s.args.length∧s.args.length≤8∧s.lo=0∧s.hi=0)∨((s.op=6∨s.op=7)∧(∃a,s.args=[a])∧s.lo=0∧s.hi=0)
 ex:s.op=1∨s.op=6∨s.op=7→bd s.ex=0
 zx:¬(s.op=1∨s.op=6∨s.op=7)→s.ex=.mk 0 0 ⟨#[]⟩ []
 nm:s.op=6→a8 s.name=true
 zn:s.op≠6→s.name=⟨#[]⟩
theorem x6{α:Type}{l:List α}(h:l.length=1):∃a,l=[a]:=List.length_eq_one_iff.1 h
theorem FH{α:Type}{l:List α}(h:l.length=2):∃a b,l=[a,b]:=by
 match l,h with
 | [a,b],_=>exact⟨a,b,rfl⟩
theorem CT{e:Ex}(h:fO e=true):e=.mk 0 0 ⟨#[]⟩ []:=by
 unfold fO at h;simp only[Bool.and_eq_true,decide_eq_true_eq]at h;cases e with
 | mk o n m l=>
  obtain⟨h1,h2,h3,h4⟩:=h;simp only[Ex.op,Ex.num,Ex.name,Ex.args]at h1 h2 h3 h4;rw[h1,h2,h3,List.eq_nil_of_length_eq_zero h4]
theorem OkT.nd{s:Ts}(h:OkT s):NdT s:=by
 obtain⟨b,h⟩:=h.node;unfold eB at h;by_cases h1:(!eL s||((!ch s.op && !fO s.ex)||(decide (s.op≠6)&&decide (s.name≠⟨#[]⟩))))=true
 ·rw[if_pos h1]at h;omega
 rw[if_neg h1]at h;by_cases h2:(decide (s.op=6) && !a8 s.name)=true
 ·rw[if_pos h2]at h;omega
 rw[if_neg h2]at h;by_cases h3:ch s.op=true∧bd s.ex≠0
 ·rw[if_pos h3]at h;exact absurd h h3.2
 simp only[Bool.or_eq_true,Bool.and_eq_true,Bool.not_eq_true',decide_eq_true_eq,not_or,not_and,Bool.not_eq_false]at h1 h2;obtain⟨s1,s2,s3⟩:=h1;have wr:ch s.op=true↔(s.op=1∨s.op=6∨s.op=7):=by unfold ch;simp[Bool.or_eq_true]
 refine⟨?_,fun g=>?_,fun g=>?_,fun g=>?_,fun g=>?_⟩
 ·unfold eL dv gU at s1;split at s1
  ·rename_i o1;simp only[Bool.and_eq_true,decide_eq_true_eq]at s1;exact .inl ⟨o1,List.eq_nil_of_length_eq_zero s1.1,s1.2.1,s1.2.2⟩
  split at s1
  ·rename_i o1;simp only[Bool.and_eq_true,decide_eq_true_eq]at s1;exact .inr (.inl ⟨o1,FH s1.1,s1.2.1,s1.2.2.1,s1.2.2.2⟩)
  split at s1
  ·rename_i o1;simp only[Bool.and_eq_true,decide_eq_true_eq]at s1;exact .inr (.inr (.inl ⟨o1,x6 s1.1,s1.2.1,s1.2.2.1,s1.2.2.2⟩))
  split at s1
  ·rename_i o1;simp only[Bool.and_eq_true,decide_eq_true_eq]at s1;exact .inr (.inr (.inr (.inl ⟨o1,s1.1.1,s1.1.2,s1.2.1,s1.2.2⟩)))
  split at s1
  ·rename_i o1;simp only[Bool.and_eq_true,decide_eq_true_eq]at s1;exact .inr (.inr (.inr (.inr ⟨o1,x6 s1.1,s1.2.1,s1.2.2⟩)))
  ·cases s1
 ·apply Classical.byContradiction;intro hv;exact h3 ⟨wr.2 g,hv⟩
 ·have:ch s.op=false:=by
   cases hw:ch s.op with
   | false=>rfl
   | true=>exact absurd (wr.1 hw) g
  exact CT (s2 this)
 ·exact h2 g
 ·apply Classical.byContradiction;intro hv;exact s3 g hv
theorem iv{n:Int}(h0:0≤n)(h1:n≤16):(qg n).length≤2:=by
 have:∀k:Nat,k≤16→(qg (k:Int)).length≤2:=by decide +kernel
 obtain⟨k,rfl⟩:=Int.eq_ofNat_of_zero_le h0;exact this k (by omega)
theorem mI(k:Int)(x:Int×Bs):(atS k x).length≤x.2.length+2:=by
 unfold atS;split
 ·simp
 ·omega
theorem nU{lo hi:Int}(h0:0≤lo)(h1:lo≤hi)(h2:hi≤16):(gY lo hi).length≤5∧(oQ lo hi).length≤7:=by
 have a:=iv h0 (by omega);have b:=iv (show 0≤hi by omega) h2
 have c:(gY lo hi).length≤5:=by
  unfold gY;split
  ·omega
  ·simp;omega
 refine⟨c,?_⟩;unfold oQ;split
 ·omega
 ·simp;omega
theorem nG(sep:Bs)(k:Int)(c:Nat)(hs:sep.length≤5):∀l:List Ts,(∀a,a∈l→(dK a).length+20≤80*bq a)→(kh sep (l.map (fm k))).length+13*l.length≤80*bM l
 | [],_=>by simp[kh,bM]
 | [a],h=>by
  have h1:=h a (by simp);have h2:=mI k (a.op,dK a);simp only[List.map_cons,List.map_nil,kh,bM,List.length_cons,List.length_nil];unfold fm;simp only at h2;omega
 | a::b::r,h=>by
  have h1:=h a (by simp);have h2:=mI k (a.op,dK a);have h3:=nG sep k c hs (b::r) fun x hx=>h x (by simp only[List.mem_cons]at hx ⊢;exact .inr hx);simp only[List.map_cons,kh,bM,List.length_cons,List.length_append]at h3 ⊢;unfold fm at h3 ⊢;simp only at h2;omega
theorem lq(s:Ts):OkT s→(dK s).length+20≤80*bq s:=by
 induction s using Ts.ind with
 | h s ih=>
 intro hs;have hn:=hs.nd;have hb:=fu s;rw[rP,hb];have harg:=fun a ha=>ih a ha (hs.arg ha);have htx:s.op=1∨s.op=6∨s.op=7→(aX s.ex).length+20≤64*aQ s.ex:=fun g=>tX _ (ji (hn.ex g));have hnm:s.op=6→(p9 s.name).length≤16:=fun g=>fF (hn.nm g);have one:∀a,s.args=[a]→bM s.args=bq a∧(dK a).length+20≤80*bq a:=fun a e=>⟨by rw[e];simp[bM],harg a (by rw[e];simp)⟩
 rcases hn.sh with⟨o,h⟩|⟨o,⟨a,b,h⟩,h0,h1,h2⟩|⟨o,⟨a,h⟩,h0,h1,h2⟩|⟨o,h0,h1,h2⟩|⟨o,⟨a,h⟩,h0,h1⟩
 ·have:=htx (.inl o);unfold cX;rw[o];simp[h.1,bM];omega
 ·have e1:=harg a (by rw[h];simp);have e2:=harg b (by rw[h];simp);have e3:bM s.args=bq a+bq b:=by rw[h];simp[bM]
  have e4:=(nU h0 h1 h2).2;have e5:=mI 3 (a.op,dK a);have e6:=mI 4 (b.op,dK b);unfold cX;rw[o,h]at *;simp at e5 e6 ⊢;omega
 ·obtain⟨e0,e1⟩:=one a h;have e4:=(nU (show 0≤s.lo by omega) h1 h2).1;have e5:=mI 5 (a.op,dK a);unfold cX;rw[o,h]at *;simp at e5 ⊢;omega
 ·unfold cX;rcases o with o|o
  ·rw[o,if_pos rfl,mC];have:=nG [32,111,114,32] 2 0 (by decide) s.args harg;omega
  ·rw[o,if_neg (by decide),if_pos rfl,mC];have:=nG [32,97,110,100,32] 3 0 (by decide) s.args harg;omega
 ·obtain⟨e0,e1⟩:=one a h;rcases o with o|o
  ·have:=htx (.inr (.inl o));have:=hnm o;unfold cX;rw[o,h]at *;simp;omega
  ·have:=htx (.inr (.inr o));have e5:=mI 4 (a.op,dK a);unfold cX;rw[o,h]at *;simp at e5 ⊢;omega
def vR(s:Ts):Bs:=if cq s=0 then dK s else[]
def mR(p:Pr):Bs:=[112,114,111,112,101,114,116,121,32]++(p9 p.name++(58::32::((if p.plain=true then[112,108,97,105,110,32]else dK p.cond++(if p.over=true then[32,124,45,62,32]else[32,124,61,62,32]))++(dK p.then_++[59]))))
def mZ(p:Pr):Bs:=if cB p=0 then mR p else[]
structure PrV(p:Pr):Prop where
 nm:a8 p.name=true
 pl:p.plain=true→p.over=false∧p.cond=zT
 co:p.plain=false→cq p.cond=0
 th:cq p.then_=0
theorem sd{p:Pr}(h:cB p=0):PrV p:=by
 unfold cB at h;by_cases h1:a8 p.name=false
 ·rw[if_pos h1]at h;omega
 rw[if_neg h1]at h;by_cases h2:p.plain=true∧(p.over=true∨ew p.cond=false)
 ·rw[if_pos h2]at h;omega
 rw[if_neg h2]at h;by_cases h3:p.plain=false∧cq p.cond≠0
 ·rw[if_pos h3]at h;exact absurd h h3.2
 rw[if_neg h3]at h;refine⟨by cases hn:a8 p.name<;>simp_all,fun g=>⟨?_,?_⟩,fun g=>?_,h⟩
 ·cases ho:p.over with
  | false=>rfl
  | true=>exact absurd ⟨g,.inl ho⟩ h2
 ·have he:ew p.cond=true:=by
   cases hh:ew p.cond with
   | true=>rfl
   | false=>exact absurd ⟨g,.inr hh⟩ h2
  rw[←pi]at he;exact(iw _ _).1 he
 ·apply Classical.byContradiction;intro hv;exact h3 ⟨g,hv⟩
end Go.Proofs.YthekkgfmagliiaaGreatDoor
