import Derived.Test.YtcbahpllcfbkmaaGreatDoorPt2
set_option linter.unusedVariables false
set_option linter.unusedSimpArgs false
set_option linter.unusedSectionVars false
namespace Go.Proofs.YtcbahpllcfbkmaaGreatDoor
open Go.RowKit
abbrev Pc:=List (Option Tok)
def txt:Pc→Bs
 | []=>[]
 | none::r=>32::txt r
 | some t::r=>t.text.data.toList++txt r
def tks:Pc→List Tok
 | []=>[]
 | none::r=>tks r
 | some t::r=>t::tks r
theorem cr:∀a b:Pc,txt (a++b)=txt a++txt b
 | [],b=>rfl
 | none::r,b=>by simp only[List.cons_append,txt,cr r b]
 | some t::r,b=>by simp only[List.cons_append,txt,cr r b,List.append_assoc]
theorem hZ:∀a b:Pc,tks (a++b)=tks a++tks b
 | [],b=>rfl
 | none::r,b=>by simp only[List.cons_append,tks,hZ r b]
 | some t::r,b=>by simp only[List.cons_append,tks,hZ r b]
theorem qS:∀l:List Tok,tks (l.map some)=l
 | []=>rfl
 | t::r=>by simp only[List.map_cons,tks,qS r]
structure Fine(t:Tok)(q:Bs):Prop where
 v:dG t=true
 n:t.text.data.toList≠[]
 r:dQ (t.text.data.toList++q)=.tok t.kind t.num t.text.data.toList.length
 s:cV (t.text.data.toList++q)=t.text.data.toList++q
def jC:Pc→Bs→Prop
 | [],_=>True
 | none::r,q=>jC r q
 | some t::r,q=>Fine t (txt r++q)∧jC r q
theorem dM:∀(a b:Pc) (q:Bs),jC a (txt b++q)→jC b q→jC (a++b) q
 | [],_,_,_,h=>h
 | none::r,b,q,h,h2=>dM r b q h h2
 | some t::r,b,q,h,h2=>⟨by have h1:=h.1;show Fine t (txt (r++b)++q);rw[cr,List.append_assoc];exact h1,dM r b q h.2 h2⟩
theorem lw:∀(X:Pc) (N:Int),jC X []→jG N (txt X)=.ok ((tks X).map fun t=>⟨t.kind,t.num,t.text,N⟩)∧(txt X).count 10=0
 | [],N,_=>⟨by show jG N []=_;rw[gW,xC];rfl,rfl⟩
 | none::r,N,h=>by
  obtain⟨h1,h2⟩:=lw r N h;refine⟨?_,by simp only[txt];rw[List.count_cons_of_ne (by decide)];exact h2⟩;simp only[txt,tks];rw[←pj,tT (by decide),pj];exact h1
 | some t::r,N,h=>by
  obtain⟨h1,h2⟩:=lw r N h.2;have hf:=h.1;rw[List.append_nil]at hf;have h0:=wH hf.v;have h3:(txt (some t::r)).count 10=0:=by simp only[txt];rw[List.count_append,h0,h2]
  refine⟨?_,h3⟩;have hs:=hf.s;have hr:=hf.r;have hn:=hf.n;have htx:=kg t.text;simp only[txt]at h3;simp only[txt,tks,List.map_cons];rw[gW,hs];have hlen:(t.text.data.toList++txt r).drop t.text.data.toList.length=txt r:=by simp
  have htk:(t.text.data.toList++txt r).take t.text.data.toList.length=t.text.data.toList:=by simp
  generalize hg:t.text.data.toList++txt r=g at *
  match g,hg with
  | [],hg=>simp at hg;exact absurd hg.1 (by simpa using hn)
  | c::g,hg=>
   simp only[hr];rw[hlen,h1];simp only[Lx.cons,tE,htk,htx,h3];congr 2;congr 1;omega
def Kq(q:Bs):Prop:=∀x,q.head? = some x→x≠61∧x≠62
def Hq(q:Bs):Prop:=∀x,q.head? = some x→inn x=false∧x≠61∧x≠62
theorem Hq.k{q:Bs}(h:Hq q):Kq q:=fun x hx=>(h x hx).2
theorem Ae:Hq []:=fun x h=>by simp at h
theorem dC{c:UInt8}{q:Bs}(h:c∈[(32:UInt8),40,41,91,93,64,44]):Hq (c::q):=by
 intro x hx;simp only[List.head?_cons,Option.some.injEq]at hx;subst hx;exact(by decide:∀c,c∈[(32:UInt8),40,41,91,93,64,44]→inn c=false∧c≠61∧c≠62) c h
theorem ph{t:Tok}(h:dG t=true)(hk:t.kind≠4){q:Bs}(hq:Hq q):Fine t q:=by
 have hqi:∀x,q.head? = some x→inn x=false:=fun x hx=>(hq x hx).1
 suffices H:t.text.data.toList≠[]∧dQ (t.text.data.toList++q)=.tok t.kind t.num t.text.data.toList.length∧cV (t.text.data.toList++q)=t.text.data.toList++q from⟨h,H.1,H.2.1,H.2.2⟩
 unfold dG at h;split at h
 ·rename_i hk;simp only[Bool.and_eq_true,decide_eq_true_eq,beq_iff_eq]at h;obtain⟨⟨h0,h1⟩,h2⟩:=h;obtain⟨c,r,h3,h4,h5⟩:=rP t.num.toNat;have hd:=qp t.num.toNat;have hv:=uD t.num.toNat;rw[h2,h3]at *;have hin:∀x,x∈c::r→inn x=true:=fun x hx=>by have:=hd x hx;simp[inn,dK,this]
  have htw:=j9 hin hqi;have hdc:=hd c (by simp);obtain⟨hb,h47⟩:=fy (.inr hdc);refine⟨by simp,?_,?_⟩
  ·rw[List.cons_append]at htw ⊢;simp only[dQ,htw,lJ hdc,hdc,hv,if_true,Bool.false_eq_true,if_false];rw[if_neg,if_neg (by omega)]
   ·rw[hk];congr 1;omega
   ·rintro(ha|⟨ha,rfl⟩)
    ·have:((c::r).all fun x=>eR x.toNat)=true:=List.all_eq_true.2 hd;rw[this]at ha;cases ha
    ·by_cases h10:t.num.toNat<10
     ·rw[h5 h10]at ha;simp at ha
     ·exact h4 (by omega) rfl
  ·rw[List.cons_append];exact dl hb h47
 ·split at h
  ·rename_i hk;simp only[Bool.and_eq_true,decide_eq_true_eq]at h;obtain⟨h0,h1⟩:=h;simp only[aD,Bool.and_eq_true,decide_eq_true_eq,Bool.not_eq_true']at h1;obtain⟨⟨hw,hz⟩,hkw⟩:=h1;unfold dY at hw;have htx:=kg t.text;rw[Lib.size_eq]at hz;generalize hl:t.text.data.toList=l at *
   match l,hw with
   | c::r,hw=>
    simp only[gJ,Bool.and_eq_true]at hw;have hin:∀x,x∈c::r→inn x=true:=fun x hx=>List.all_eq_true.1 hw.2 x hx;have htw:=j9 hin hqi;obtain⟨hb,h47⟩:=fy (.inl hw.1);refine⟨by simp,?_,?_⟩
    ·rw[List.cons_append]at htw ⊢;simp only[dQ,htw,hw.1,if_true];rw[if_neg (by omega),htx,hkw,hk,h0];rfl
    ·rw[List.cons_append];exact dl hb h47
  ·split at h
   ·rename_i hk;simp only[Bool.and_eq_true,decide_eq_true_eq]at h;obtain⟨h0,h1⟩:=h;have hf:=mF _ (qt h1);have htx:=kg t.text;generalize hl:t.text.data.toList=l at *
    match l,hf with
    | c::r,hf=>
     simp only[Bool.and_eq_true,decide_eq_true_eq]at hf;obtain⟨⟨hlow,hall⟩,hz⟩:=hf;have hin:∀x,x∈c::r→inn x=true:=fun x hx=>List.all_eq_true.1 hall x hx;have htw:=j9 hin hqi;obtain⟨hb,h47⟩:=fy (.inl hlow);refine⟨by simp,?_,?_⟩
     ·rw[List.cons_append]at htw ⊢;simp only[dQ,htw,hlow,if_true];rw[if_neg (by omega),htx,h1,hk,h0];rfl
     ·rw[List.cons_append];exact dl hb h47
   ·cases h
def nI:List UInt8:=[40,41,91,93,123,125,64,44,33,126,45]
theorem sW:∀c,c∈nI→[c]∈dp∧fD [c]=1∧dG (tm (al c))=true∧d8 c.toNat=false∧eR c.toNat=false∧li c=false∧c≠47:=by decide +kernel
theorem wv:∀c,c∈nI→∀n:Nat,n<256→n≠61→n≠62→fD [c,UInt8.ofNat n]=1:=by decide +kernel
theorem wD{c:UInt8}(h:c∈nI){q:Bs}(hq:Kq q):Fine (tm (al c)) q:=by
 obtain⟨h1,h2,h3,h4,h5,h6,h7⟩:=sW c h
 have hb:fD (c::q)=1:=by
  rw[po]
  match q,hq with
  | [],_=>exact h2
  | x::q,hq=>
   have hx:=hq x rfl;have hl:x.toNat<256:=x.toNat_lt;have hx1:x.toNat≠61:=fun e=>hx.1 (UInt8.toNat.inj e);have hx2:x.toNat≠62:=fun e=>hx.2 (UInt8.toNat.inj e);have:=wv c h x.toNat hl hx1 hx2;rw[UInt8.ofNat_toNat]at this;exact this
 refine⟨h3,by simp[tm,al],?_,dl h6 h7⟩;show dQ (c::q)=.tok 4 0 1;simp only[dQ,h4,h5,hb];rfl
theorem sA{t:Tok}(h:dG t=true)(q:Bs):Fine t (32::q):=by
 have hb:tW (32::q):=fun x hx=>by simp only[List.head?_cons,Option.some.injEq]at hx;subst hx;decide
 obtain⟨h1,h2,h3⟩:=tx h hb;exact⟨h,h1,h2,h3⟩
theorem bW(c:UInt8)(X:Pc):txt (some (tm (al c))::X)=c::txt X:=rfl
structure Hd(X:Pc):Prop where
 n:txt X≠[]
 k:Kq (txt X)
theorem Hd.q{X:Pc}(h:Hd X)(q:Bs):Kq (txt X++q):=by
 have h1:=h.n;have h2:=h.k;cases e:txt X with
 | nil=>exact absurd e h1
 | cons c r=>rw[e]at h2;exact fun x hx=>h2 x hx
theorem Hd.app{X:Pc}(h:Hd X)(Y:Pc):Hd (X++Y):=by
 refine⟨by rw[cr];simp[h.n],by rw[cr];exact h.q _⟩
theorem uj{c:UInt8}(h:c∈nI)(X:Pc):Hd (some (tm (al c))::X):=
 ⟨by rw[bW];simp,by
   intro x hx;rw[bW]at hx;simp only[List.head?_cons,Option.some.injEq]at hx;subst hx;exact(by decide:∀c,c∈nI→c≠61∧c≠62) c h⟩
theorem jo{t:Tok}(h:dG t=true)(hk:t.kind≠4)(X:Pc):Hd (some t::X):=by
 have hf:=ph h hk Ae;have hn:=hf.n;have hr:=hf.r;refine⟨by simp[txt,hn],?_⟩;simp only[txt];cases e:t.text.data.toList with
 | nil=>exact absurd e hn
 | cons c r=>
  rw[e]at hr;intro x hx;simp only[List.cons_append,List.head?_cons,Option.some.injEq]at hx;subst hx;rw[List.append_nil]at hr;simp only[dQ]at hr;have hne:∀c:UInt8,c=61∨c=62→d8 c.toNat=false∧eR c.toNat=false:=by rintro c (rfl|rfl)<;>decide
  have:¬(c=61∨c=62):=by
   intro hc;obtain⟨g1,g2⟩:=hne c hc;simp only[g1,g2,Bool.false_eq_true,if_false]at hr;split at hr
   ·cases hr
   ·injection hr with h1;exact hk h1.symm
  exact⟨fun e=>this (.inl e),fun e=>this (.inr e)⟩
def fj(k:Nat)(a:Int×Pc):Pc:=if iU a.1<k then some (tm (al 40))::(a.2++[some (tm (al 41))])else a.2
def eT:List (Int×Pc)→Pc
 | []=>[]
 | [_]=>[]
 | [a,b]=>a.2++none::some (tm (bO 46 46))::none::b.2
 | a::b::c::r=>a.2++none::some (tm (bO 46 46))::none::(b.2++some (tm (al 44))::none::eT (c::r))
def iP(o n:Int)(s:ByteArray)(xs:List (Int×Pc)):Pc:=match eI o with
 | some (m,l)=>fj (if l=2 then 3 else l) (xs.getD 0 (1,[]))++none::some (tm m)::none::fj (if l=2 then 2 else l+1) (xs.getD 1 (1,[]))
 | none=>
  if o=4 then some (tm (al 33))::fj 13 (xs.getD 0 (1,[]))
  else if o=5 then some (tm (al 126))::fj 13 (xs.getD 0 (1,[]))
  else if o=6 then some (tm (al 45))::fj 13 (xs.getD 0 (1,[]))
  else if o=22 then fj 2 (xs.getD 0 (1,[]))++none::some (tm (al 63))::none::(fj 1 (xs.getD 1 (1,[]))++none::some (tm (al 58))::none::fj 1 (xs.getD 2 (1,[])))
  else if o=23 then fj 9 (xs.getD 0 (1,[]))++none::some (tw cu)::none::some (tm (al 123))::none::(eT xs.tail++[none,some (tm (al 125))])
  else if o=1 then[some (td n)]
  else if o=3 then some (tn s)::some (tm (al 91))::((xs.getD 0 (1,[])).2++[some (tm (al 93))])
  else if o=24 then[some (tn lY),some (tm (al 40)),some (tn s),some (tm (al 41))]
  else if o=25 then some (tn ip)::some (tm (al 40))::((xs.getD 0 (1,[])).2++[some (tm (al 41))])
  else(iu s).map some
mutual
def pcE:Ex→Pc
 | .mk o n s l=>iP o n s (qu l)
def qu:List Ex→List (Int×Pc)
 | []=>[]
 | a::r=>(a.op,pcE a)::qu r
end
theorem qG(l:List Ex):qu l=l.map fun a=>(a.op,pcE a):=by
 induction l with
 | nil=>rfl
 | cons a r ih=>simp only[qu,ih,List.map_cons]
def aF(e:Ex):Bs:=txt (pcE e)
theorem zr(k:Nat)(a:Int×Pc):tks (fj k a)=dJ k (a.1,tks a.2):=by
 unfold fj dJ;simp only;split
 ·simp only[tks,hZ]
 ·rfl
theorem pe:∀xs:List (Int×Pc),tks (eT xs)=cJ (xs.map fun a=>(a.1,tks a.2))
 | []=>rfl
 | [_]=>rfl
 | [a,b]=>by simp only[eT,List.map_cons,List.map_nil,cJ,hZ,tks]
 | a::b::c::r=>by
  have:=pe (c::r);simp only[eT,hZ,tks,this];rfl
theorem z7(xs:List (Int×Pc))(i:Nat):(xs.map fun a=>(a.1,tks a.2)).getD i (1,[])=((xs.getD i (1,[])).1,tks (xs.getD i (1,[])).2):=by
 rw[List.getD_eq_getElem?_getD,List.getD_eq_getElem?_getD,List.getElem?_map];cases xs[i]?<;>rfl
theorem y8(o n:Int)(s:ByteArray)(xs:List (Int×Pc)):tks (iP o n s xs)=gw o n s (xs.map fun a=>(a.1,tks a.2)):=by
 unfold iP gw;simp only[z7];cases eI o with
 | some p=>simp only[hZ,tks,zr]
 | none=>
  simp only;repeat' split
  all_goals simp only[hZ,tks,zr,pe,qS,List.map_tail]
theorem Be(e:Ex):tks (pcE e)=a6 e:=by
 induction e using Ex.ind with
 | h o n s l ih=>
 show tks (iP o n s (qu l))=gw o n s (cN l);rw[y8,qG,j0,List.map_map];congr 1;exact List.map_congr_left fun a ha=>by simp only[Function.comp,ih a ha]
theorem db{c:UInt8}(h:c∈nI){X:Pc}{q:Bs}(hk:Kq (txt X++q))(hX:jC X q):jC (some (tm (al c))::X) q:=⟨wD h hk,hX⟩
theorem fP{t:Tok}(h:dG t=true){X:Pc}{q:Bs}(hX:jC X q):jC (some t::none::X) q:=⟨sA h _,hX⟩
theorem fA{t:Tok}(h:dG t=true)(hk:t.kind≠4){X:Pc}{q:Bs}(hq:Hq (txt X++q))(hX:jC X q):jC (some t::X) q:=⟨ph h hk hq,hX⟩
structure GT(X:Pc):Prop where
 g:∀q,Hq q→jC X q
 h:Hd X
theorem mn{c:UInt8}(h:c∈nI){X:Pc}(hX:GT X):GT (some (tm (al c))::X):=
 ⟨fun q hq=>db h (hX.h.q q) (hX.g q hq),uj h _⟩
theorem mU(k:Nat){o:Int}{X:Pc}(hX:GT X):GT (fj k (o,X)):=by
 unfold fj;simp only;split
 ·refine⟨fun q hq=>db (by decide) ?_ (dM _ _ q (hX.g _ (dC (by decide))) (db (by decide) ?_ trivial)),uj (by decide) _⟩
  ·rw[cr,List.append_assoc];exact hX.h.q _
  ·exact hq.k
 ·exact hX
theorem pJ{X Y:Pc}{m:ByteArray}(hm:dG (tm m)=true)(hX:GT X)(hY:GT Y):GT (X++none::some (tm m)::none::Y):=
 ⟨fun q hq=>dM _ _ q (hX.g _ (dC (by decide))) (fP hm (hY.g q hq)),hX.h.app _⟩
theorem rz:∀(l:List (Int×Pc)),(∀a,a∈l→GT a.2)→∀q,Hq q→jC (eT l) q
 | [],_,_,_=>trivial
 | [_],_,_,_=>trivial
 | [a,b],h,q,hq=>(pJ (da (bO 46 46) (by simp)) (h a (by simp)) (h b (by simp))).g q hq
 | a::b::c::r,h,q,hq=>by
  have ih:=rz (c::r) (fun x hx=>h x (by simp only[List.mem_cons]at hx ⊢;exact .inr (.inr hx))) q hq;refine dM _ _ q ((h a (by simp)).g _ (dC (by decide))) (fP (da (bO 46 46) (by simp)) ?_);refine dM _ _ q ((h b (by simp)).g _ (dC (by decide))) ?_;exact fP (da (al 44) (by simp)) ih
theorem eu{s:ByteArray}(h:aD s=true):dG (tn s)=true:=by
 unfold dG tn;simp[h]
theorem uG{n:Int}(h0:0≤n)(h1:n≤65535):dG (td n)=true:=by
 unfold dG td nW;simp only[if_true,Bool.and_eq_true,decide_eq_true_eq,beq_iff_eq];exact⟨⟨h0,by omega⟩,by simp⟩
theorem iZ(s:ByteArray):(tn s).kind≠4:=by show(1:Int)≠4;decide
theorem C3(n:Int):(td n).kind≠4:=by show(3:Int)≠4;decide
theorem qm{t:Tok}(h:dG t=true)(hk:t.kind≠4):GT [some t]:=
 ⟨fun q hq=>fA h hk hq trivial,jo h hk _⟩
theorem Ef(e:Ex):b8 e=0→GT (pcE e):=by
 induction e using Ex.ind with
 | h o n s l ih=>
 intro he;obtain⟨hnode,hargs⟩:=jV he;obtain⟨o1,o25,hc,hop,hvar,hname,hn0,hs0⟩:=jR hnode;have hrt:∀a,a∈l→GT (pcE a):=fun a ha=>ih a ha (hargs a ha);by_cases c1:o=1
 ·subst c1;obtain⟨h0,h1⟩:=hc rfl;show GT [some (td n)];exact qm (uG h0 h1) (C3 _)
 by_cases c2:o=2
 ·subst c2;have hv:=hvar rfl;show GT ((iu s).map some);by_cases hel:dO s=true
  ·obtain⟨g1,g2,g3,g4⟩:=cv hel;rw[show iu s=[tn (df s 91),tm (al 64),td (bT s)]from if_pos hel];have h1:=qm (uG g2 (by omega)) (C3 _);have h2:=mn (c:=64) (by decide) h1;exact⟨fun q hq=>fA (eu g1) (iZ _) (dC (by decide)) (h2.g q hq),jo (eu g1) (iZ _) _⟩
  ·have hnm:aD s=true:=by
    unfold aL at hv;rw[Bool.or_eq_true]at hv;exact hv.resolve_left hel
   rw[show iu s=[tn s]from if_neg hel];exact qm (eu hnm) (iZ _)
 by_cases c3:o=3
 ·subst c3;have hnm:=hname (.inl rfl)
  have hl:l.length=1:=by have:(l.length:Int)=1:=by simpa[bM,cf]using hop
                         omega
  obtain⟨x,rfl⟩:=List.length_eq_one_iff.1 hl;have hx:=hrt x (by simp);show GT (some (tn s)::some (tm (al 91))::(pcE x++[some (tm (al 93))]));refine⟨fun q hq=>fA (eu hnm) (iZ _) (dC (by decide)) (db (by decide) ?_ (dM _ _ q (hx.g _ (dC (by decide))) (db (by decide) hq.k trivial))),jo (eu hnm) (iZ _) _⟩;rw[cr,List.append_assoc];exact hx.h.q _
 by_cases c24:o=24
 ·subst c24;have hnm:=hname (.inr rfl);show GT [some (tn lY),some (tm (al 40)),some (tn s),some (tm (al 41))];have hsw:aD lY=true:=by decide +kernel
  refine⟨fun q hq=>fA (eu hsw) (iZ _) (dC (by decide)) (db (by decide) ?_ (fA (eu hnm) (iZ _) (dC (by decide)) (db (by decide) hq.k trivial))),jo (eu hsw) (iZ _) _⟩;exact(jo (eu hnm) (iZ _) _).q _
 by_cases c25:o=25
 ·subst c25
  have hl:l.length=1:=by have:(l.length:Int)=1:=by simpa[bM,cf]using hop
                         omega
  obtain⟨x,rfl⟩:=List.length_eq_one_iff.1 hl;have hx:=hrt x (by simp);have how:aD ip=true:=by decide +kernel
  show GT (some (tn ip)::some (tm (al 40))::(pcE x++[some (tm (al 41))]));refine⟨fun q hq=>fA (eu how) (iZ _) (dC (by decide)) (db (by decide) ?_ (dM _ _ q (hx.g _ (dC (by decide))) (db (by decide) hq.k trivial))),jo (eu how) (iZ _) _⟩;rw[cr,List.append_assoc];exact hx.h.q _
 by_cases c456:o=4∨o=5∨o=6
 ·have hl:l.length=1:=by
   have:(l.length:Int)=1:=by
    rcases c456 with rfl|rfl|rfl<;>simpa[bM,cf]using hop
   omega
  obtain⟨x,rfl⟩:=List.length_eq_one_iff.1 hl;have hx:=mU 13 (o:=x.op) (hrt x (by simp));rcases c456 with rfl|rfl|rfl
  ·exact mn (c:=33) (by decide) hx
  ·exact mn (c:=126) (by decide) hx
  ·exact mn (c:=45) (by decide) hx
 by_cases c22:o=22
 ·subst c22
  have hl:l.length=3:=by have:(l.length:Int)=3:=by simpa[bM,cf]using hop
                         omega
  match l,hl with
  | [x,y,z],_=>
   exact pJ (da (al 63) (by simp)) (mU 2 (o:=x.op) (hrt x (by simp))) (pJ (da (al 58) (by simp)) (mU 1 (o:=y.op) (hrt y (by simp))) (mU 1 (o:=z.op) (hrt z (by simp))))
 by_cases c23:o=23
 ·subst c23
  have hl:l.length%2=1∧3≤l.length:=by
   have:(decide (l.length%2=1)&&decide (3≤l.length)&&decide (l.length≤33))=true:=by simpa[bM]using hop
   simp only[Bool.and_eq_true,decide_eq_true_eq]at this;exact this.1
  match l,hl with
  | x::m,⟨h1,h2⟩=>
   have hx:=mU 9 (o:=x.op) (hrt x (by simp));show GT (fj 9 (x.op,pcE x)++none::some (tw cu)::none::some (tm (al 123))::none::(eT (qu m)++[none,some (tm (al 125))]));refine⟨fun q hq=>dM _ _ q (hx.g _ (dC (by decide))) (fP ol (fP (da (al 123) (by simp)) ?_)),hx.h.app _⟩;refine dM _ _ q (rz _ ?_ _ (dC (by decide))) (db (by decide) hq.k trivial);intro a ha;rw[qG]at ha;obtain⟨b,hb,rfl⟩:=List.mem_map.1 ha;exact hrt b (by simp[hb])
 have hl:l.length=2:=by
  have:(l.length:Int)=2:=by
   have h1:(l.length:Int)=cf o:=by unfold bM at hop;rw[if_neg c23]at hop;exact of_decide_eq_true hop
   rw[h1];unfold cf;rw[if_neg (by omega),if_neg (by omega),if_neg c22,if_neg c23,if_neg (by omega)]
  omega
 match l,hl with
 | [x,y],_=>
  obtain⟨k,hk⟩:=Int.eq_ofNat_of_zero_le (show 0≤o by omega);have hb:=ql k (by omega) (by omega);rw[←hk]at hb;obtain⟨⟨m,p⟩,hp⟩:=Option.isSome_iff_exists.1 hb;show GT (iP o n s [(x.op,pcE x),(y.op,pcE y)]);unfold iP;rw[hp];exact pJ (sd _ (fC hp)) (mU _ (o:=x.op) (hrt x (by simp))) (mU _ (o:=y.op) (hrt y (by simp)))
theorem vN(e:Ex):(a6 e).map (fun t=>(⟨t.kind,t.num,t.text,1⟩:Tok))=a6 e:=by
 have:∀t,t∈a6 e→(⟨t.kind,t.num,t.text,1⟩:Tok)=t:=by
  suffices H:∀e:Ex,∀t,t∈a6 e→t.line=1 from fun t ht=>by have:=H e t ht;cases t;simp only at this;rw[this]
  have at1:∀(k:Nat) (a:Int×List Tok),(∀t,t∈a.2→t.line=1)→∀t,t∈dJ k a→t.line=1:=by
   intro k a h t ht;unfold dJ at ht;split at ht
   ·simp only[List.mem_cons,List.mem_append,List.not_mem_nil,or_false]at ht;rcases ht with rfl|ht|rfl
    ·rfl
    ·exact h t ht
    ·rfl
   ·exact h t ht
  have pairs1:∀(l:List (Int×List Tok)),(∀a,a∈l→∀t,t∈a.2→t.line=1)→∀t,t∈cJ l→t.line=1:=by
   intro l
   induction l using cJ.induct with
   | case1=>intro _ t ht;cases ht
   | case2=>intro _ t ht;cases ht
   | case3 a b=>
    intro h t ht;simp only[cJ,List.mem_append,List.mem_cons]at ht;rcases ht with ht|rfl|ht
    ·exact h a (by simp) t ht
    ·rfl
    ·exact h b (by simp) t ht
   | case4 a b c r ih=>
    intro h t ht;simp only[cJ,List.mem_append,List.mem_cons]at ht;rcases ht with ht|rfl|ht|rfl|ht
    ·exact h a (by simp) t ht
    ·rfl
    ·exact h b (by simp) t ht
    ·rfl
    ·exact ih (fun x hx=>h x (by simp only[List.mem_cons]at hx ⊢;exact .inr (.inr hx))) t ht
  intro e
  induction e using Ex.ind with
  | h o n s l ih=>
  have hd:∀i,∀t,t∈((cN l).getD i (1,[])).2→t.line=1:=by
   intro i t ht;rw[j0,List.getD_eq_getElem?_getD,List.getElem?_map]at ht;cases h:l[i]? with
   | none=>rw[h]at ht;simp at ht
   | some a=>rw[h]at ht;exact ih a (List.mem_of_getElem? h) t ht
  intro t ht;show _;replace ht:t∈gw o n s (cN l):=ht;unfold gw at ht
  have hp:=pairs1 (cN l).tail (fun a ha t ht=>by
   have:=List.mem_of_mem_tail ha;rw[j0]at this;obtain⟨b,hb,rfl⟩:=List.mem_map.1 this;exact ih b hb t ht)
  have hv:t∈iu s→t.line=1:=by
   intro h;unfold iu at h;split at h
   ·simp only[List.mem_cons,List.not_mem_nil,or_false]at h;rcases h with rfl|rfl|rfl<;>rfl
   ·simp only[List.mem_cons,List.not_mem_nil,or_false]at h;subst h;rfl
  cases hb:eI o with
  | some p=>
   rw[hb]at ht;simp only[List.mem_append,List.mem_cons]at ht;rcases ht with ht|rfl|ht
   ·exact at1 _ _ (hd 0) t ht
   ·rfl
   ·exact at1 _ _ (hd 1) t ht
  | none=>
   rw[hb]at ht;simp only at ht;repeat' split at ht
   all_goals first
    | exact hv ht
    | (simp only[List.mem_append,List.mem_cons,List.not_mem_nil,or_false]at ht
       rcases ht with ht|ht|ht|ht|ht<;>first|(subst ht;rfl)|exact at1 _ _ (hd _) t ht|exact hd _ t ht|exact hp t ht)
    | (simp only[List.mem_append,List.mem_cons,List.not_mem_nil,or_false]at ht
       rcases ht with ht|ht|ht|ht<;>first|(subst ht;rfl)|exact at1 _ _ (hd _) t ht|exact hd _ t ht|exact hp t ht)
    | (simp only[List.mem_append,List.mem_cons,List.not_mem_nil,or_false]at ht
       rcases ht with ht|ht<;>first|(subst ht;rfl)|exact at1 _ _ (hd _) t ht|exact hd _ t ht|exact hp t ht)
    | (simp only[List.mem_append,List.mem_cons,List.not_mem_nil,or_false]at ht
       subst ht;rfl)
 conv=>rhs;rw[←List.map_id (a6 e)]
 exact List.map_congr_left this
theorem o5{e:Ex}(h:b8 e=0):C1 (aF e)=.ok (a6 e):=by
 obtain⟨h1,h2⟩:=lw (pcE e) 1 ((Ef e h).g [] Ae);unfold C1 aF;rw[h2];have:=h1;rw[Be,vN]at this;exact this
theorem ni{e:Ex}(h:b8 e=0):par .W (a6 e)=.ok e []:=by
 have:=(Ds e h).at_ 1 (by omega) (by omega) [] (yL 1);rw[tk1,List.append_nil]at this;exact this
end Go.Proofs.YtcbahpllcfbkmaaGreatDoor
