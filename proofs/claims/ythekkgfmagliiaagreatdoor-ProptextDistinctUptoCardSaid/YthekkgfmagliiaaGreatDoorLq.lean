import Derived.Test.YthekkgfmagliiaaGreatDoorPt2
set_option linter.unusedVariables false
set_option linter.unusedSimpArgs false
set_option linter.unusedSectionVars false
namespace Go.Proofs.YthekkgfmagliiaaGreatDoor
open Go.RowKit
abbrev Pc:=List (Option Tok)
def txt:Pc→Bs
 | []=>[]
 | none::r=>32::txt r
 | some t::r=>t.text.data.toList++txt r
def tks:Pc→List Tok
 | []=>[]
 | none::r=>tks r
 | some t::r=>t::tks r
theorem bD:∀a b:Pc,txt (a++b)=txt a++txt b
 | [],b=>rfl
 | none::r,b=>by simp only[List.cons_append,txt,bD r b]
 | some t::r,b=>by simp only[List.cons_append,txt,bD r b,List.append_assoc]
theorem dc:∀a b:Pc,tks (a++b)=tks a++tks b
 | [],b=>rfl
 | none::r,b=>by simp only[List.cons_append,tks,dc r b]
 | some t::r,b=>by simp only[List.cons_append,tks,dc r b]
theorem tM:∀l:List Tok,tks (l.map some)=l
 | []=>rfl
 | t::r=>by simp only[List.map_cons,tks,tM r]
structure Fine(t:Tok)(q:Bs):Prop where
 v:cK t=true
 n:t.text.data.toList≠[]
 r:dA (t.text.data.toList++q)=.tok t.kind t.num t.text.data.toList.length
 s:dk (t.text.data.toList++q)=t.text.data.toList++q
def gZ:Pc→Bs→Prop
 | [],_=>True
 | none::r,q=>gZ r q
 | some t::r,q=>Fine t (txt r++q)∧gZ r q
theorem bG:∀(a b:Pc) (q:Bs),gZ a (txt b++q)→gZ b q→gZ (a++b) q
 | [],_,_,_,h=>h
 | none::r,b,q,h,h2=>bG r b q h h2
 | some t::r,b,q,h,h2=>⟨by have h1:=h.1;show Fine t (txt (r++b)++q);rw[bD,List.append_assoc];exact h1,bG r b q h.2 h2⟩
theorem mu:∀(X:Pc) (N:Int),gZ X []→ku N (txt X)=.ok ((tks X).map fun t=>⟨t.kind,t.num,t.text,N⟩)∧(txt X).count 10=0
 | [],N,_=>⟨by show ku N []=_;rw[iX,zf];rfl,rfl⟩
 | none::r,N,h=>by
  obtain⟨h1,h2⟩:=mu r N h;refine⟨?_,by simp only[txt];rw[List.count_cons_of_ne (by decide)];exact h2⟩;simp only[txt,tks];rw[←qK,wi (by decide),qK];exact h1
 | some t::r,N,h=>by
  obtain⟨h1,h2⟩:=mu r N h.2;have hf:=h.1;rw[List.append_nil]at hf;have h0:=AZ hf.v;have h3:(txt (some t::r)).count 10=0:=by simp only[txt];rw[List.count_append,h0,h2]
  refine⟨?_,h3⟩;have hs:=hf.s;have hr:=hf.r;have hn:=hf.n;have htx:=lk t.text;simp only[txt]at h3;simp only[txt,tks,List.map_cons];rw[iX,hs];have hlen:(t.text.data.toList++txt r).drop t.text.data.toList.length=txt r:=by simp
  have htk:(t.text.data.toList++txt r).take t.text.data.toList.length=t.text.data.toList:=by simp
  generalize hg:t.text.data.toList++txt r=g at *
  match g,hg with
  | [],hg=>simp at hg;exact absurd hg.1 (by simpa using hn)
  | c::g,hg=>
   simp only[hr];rw[hlen,h1];simp only[Lx.cons,vo,htk,htx,h3];congr 2;congr 1;omega
def Kq(q:Bs):Prop:=∀x,q.head? = some x→x≠61∧x≠62
def Hq(q:Bs):Prop:=∀x,q.head? = some x→inn x=false∧x≠61∧x≠62
theorem Hq.k{q:Bs}(h:Hq q):Kq q:=fun x hx=>(h x hx).2
theorem Dl:Hq []:=fun x h=>by simp at h
theorem bW{c:UInt8}{q:Bs}(h:c∈[(32:UInt8),40,41,91,93,64,44]):Hq (c::q):=by
 intro x hx;simp only[List.head?_cons,Option.some.injEq]at hx;subst hx;exact(by decide:∀c,c∈[(32:UInt8),40,41,91,93,64,44]→inn c=false∧c≠61∧c≠62) c h
theorem qi{t:Tok}(h:cK t=true)(hk:t.kind≠4){q:Bs}(hq:Hq q):Fine t q:=by
 have hqi:∀x,q.head? = some x→inn x=false:=fun x hx=>(hq x hx).1
 suffices H:t.text.data.toList≠[]∧dA (t.text.data.toList++q)=.tok t.kind t.num t.text.data.toList.length∧dk (t.text.data.toList++q)=t.text.data.toList++q from⟨h,H.1,H.2.1,H.2.2⟩
 unfold cK at h;split at h
 ·rename_i hk;simp only[Bool.and_eq_true,decide_eq_true_eq,beq_iff_eq]at h;obtain⟨⟨h0,h1⟩,h2⟩:=h;obtain⟨c,r,h3,h4,h5⟩:=pK t.num.toNat;have hd:=nB t.num.toNat;have hv:=yk t.num.toNat;rw[h2,h3]at *;have hin:∀x,x∈c::r→inn x=true:=fun x hx=>by have:=hd x hx;simp[inn,eu,this]
  have htw:=kU hin hqi;have hdc:=hd c (by simp);obtain⟨hb,h47⟩:=gk (.inr hdc);refine⟨by simp,?_,?_⟩
  ·rw[List.cons_append]at htw ⊢;simp only[dA,htw,mX hdc,hdc,hv,if_true,Bool.false_eq_true,if_false];rw[if_neg,if_neg (by omega)]
   ·rw[hk];congr 1;omega
   ·rintro(ha|⟨ha,rfl⟩)
    ·have:((c::r).all fun x=>d6 x.toNat)=true:=List.all_eq_true.2 hd;rw[this]at ha;cases ha
    ·by_cases h10:t.num.toNat<10
     ·rw[h5 h10]at ha;simp at ha
     ·exact h4 (by omega) rfl
  ·rw[List.cons_append];exact cU hb h47
 ·split at h
  ·rename_i hk;simp only[Bool.and_eq_true,decide_eq_true_eq]at h;obtain⟨h0,h1⟩:=h;simp only[a8,Bool.and_eq_true,decide_eq_true_eq,Bool.not_eq_true']at h1;obtain⟨⟨hw,hz⟩,hkw⟩:=h1;unfold eq at hw;have htx:=lk t.text;rw[Lib.size_eq]at hz;generalize hl:t.text.data.toList=l at *
   match l,hw with
   | c::r,hw=>
    simp only[iq,Bool.and_eq_true]at hw;have hin:∀x,x∈c::r→inn x=true:=fun x hx=>List.all_eq_true.1 hw.2 x hx;have htw:=kU hin hqi;obtain⟨hb,h47⟩:=gk (.inl hw.1);refine⟨by simp,?_,?_⟩
    ·rw[List.cons_append]at htw ⊢;simp only[dA,htw,hw.1,if_true];rw[if_neg (by omega),htx,hkw,hk,h0];rfl
    ·rw[List.cons_append];exact cU hb h47
  ·split at h
   ·rename_i hk;simp only[Bool.and_eq_true,decide_eq_true_eq]at h;obtain⟨h0,h1⟩:=h;have hf:=pj _ (rX h1);have htx:=lk t.text;generalize hl:t.text.data.toList=l at *
    match l,hf with
    | c::r,hf=>
     simp only[Bool.and_eq_true,decide_eq_true_eq]at hf;obtain⟨⟨hlow,hall⟩,hz⟩:=hf;have hin:∀x,x∈c::r→inn x=true:=fun x hx=>List.all_eq_true.1 hall x hx;have htw:=kU hin hqi;obtain⟨hb,h47⟩:=gk (.inl hlow);refine⟨by simp,?_,?_⟩
     ·rw[List.cons_append]at htw ⊢;simp only[dA,htw,hlow,if_true];rw[if_neg (by omega),htx,h1,hk,h0];rfl
     ·rw[List.cons_append];exact cU hb h47
   ·cases h
def oi:List UInt8:=[40,41,91,93,123,125,64,44,33,126,45]
theorem wk:∀c,c∈oi→[c]∈cN∧eH [c]=1∧cK (tm (aj c))=true∧eo c.toNat=false∧d6 c.toNat=false∧kj c=false∧c≠47:=by decide +kernel
theorem y9:∀c,c∈oi→∀n:Nat,n<256→n≠61→n≠62→eH [c,UInt8.ofNat n]=1:=by decide +kernel
theorem AW{c:UInt8}(h:c∈oi){q:Bs}(hq:Kq q):Fine (tm (aj c)) q:=by
 obtain⟨h1,h2,h3,h4,h5,h6,h7⟩:=wk c h
 have hb:eH (c::q)=1:=by
  rw[j7]
  match q,hq with
  | [],_=>exact h2
  | x::q,hq=>
   have hx:=hq x rfl;have hl:x.toNat<256:=x.toNat_lt;have hx1:x.toNat≠61:=fun e=>hx.1 (UInt8.toNat.inj e);have hx2:x.toNat≠62:=fun e=>hx.2 (UInt8.toNat.inj e);have:=y9 c h x.toNat hl hx1 hx2;rw[UInt8.ofNat_toNat]at this;exact this
 refine⟨h3,by simp[tm,aj],?_,cU h6 h7⟩;show dA (c::q)=.tok 4 0 1;simp only[dA,h4,h5,hb];rfl
theorem vQ{t:Tok}(h:cK t=true)(q:Bs):Fine t (32::q):=by
 have hb:vD (32::q):=fun x hx=>by simp only[List.head?_cons,Option.some.injEq]at hx;subst hx;decide
 obtain⟨h1,h2,h3⟩:=od h hb;exact⟨h,h1,h2,h3⟩
theorem bY(c:UInt8)(X:Pc):txt (some (tm (aj c))::X)=c::txt X:=rfl
structure Hd(X:Pc):Prop where
 n:txt X≠[]
 k:Kq (txt X)
theorem Hd.q{X:Pc}(h:Hd X)(q:Bs):Kq (txt X++q):=by
 have h1:=h.n;have h2:=h.k;cases e:txt X with
 | nil=>exact absurd e h1
 | cons c r=>rw[e]at h2;exact fun x hx=>h2 x hx
theorem Hd.app{X:Pc}(h:Hd X)(Y:Pc):Hd (X++Y):=by
 refine⟨by rw[bD];simp[h.n],by rw[bD];exact h.q _⟩
theorem lz{c:UInt8}(h:c∈oi)(X:Pc):Hd (some (tm (aj c))::X):=
 ⟨by rw[bY];simp,by
   intro x hx;rw[bY]at hx;simp only[List.head?_cons,Option.some.injEq]at hx;subst hx;exact(by decide:∀c,c∈oi→c≠61∧c≠62) c h⟩
theorem gX{t:Tok}(h:cK t=true)(hk:t.kind≠4)(X:Pc):Hd (some t::X):=by
 have hf:=qi h hk Dl;have hn:=hf.n;have hr:=hf.r;refine⟨by simp[txt,hn],?_⟩;simp only[txt];cases e:t.text.data.toList with
 | nil=>exact absurd e hn
 | cons c r=>
  rw[e]at hr;intro x hx;simp only[List.cons_append,List.head?_cons,Option.some.injEq]at hx;subst hx;rw[List.append_nil]at hr;simp only[dA]at hr;have hne:∀c:UInt8,c=61∨c=62→eo c.toNat=false∧d6 c.toNat=false:=by rintro c (rfl|rfl)<;>decide
  have:¬(c=61∨c=62):=by
   intro hc;obtain⟨g1,g2⟩:=hne c hc;simp only[g1,g2,Bool.false_eq_true,if_false]at hr;split at hr
   ·cases hr
   ·injection hr with h1;exact hk h1.symm
  exact⟨fun e=>this (.inl e),fun e=>this (.inr e)⟩
def fT(k:Nat)(a:Int×Pc):Pc:=if jD a.1<k then some (tm (aj 40))::(a.2++[some (tm (aj 41))])else a.2
def fw:List (Int×Pc)→Pc
 | []=>[]
 | [_]=>[]
 | [a,b]=>a.2++none::some (tm (aO 46 46))::none::b.2
 | a::b::c::r=>a.2++none::some (tm (aO 46 46))::none::(b.2++some (tm (aj 44))::none::fw (c::r))
def jj(o n:Int)(s:ByteArray)(xs:List (Int×Pc)):Pc:=match fD o with
 | some (m,l)=>fT (if l=2 then 3 else l) (xs.getD 0 (1,[]))++none::some (tm m)::none::fT (if l=2 then 2 else l+1) (xs.getD 1 (1,[]))
 | none=>
  if o=4 then some (tm (aj 33))::fT 13 (xs.getD 0 (1,[]))
  else if o=5 then some (tm (aj 126))::fT 13 (xs.getD 0 (1,[]))
  else if o=6 then some (tm (aj 45))::fT 13 (xs.getD 0 (1,[]))
  else if o=22 then fT 2 (xs.getD 0 (1,[]))++none::some (tm (aj 63))::none::(fT 1 (xs.getD 1 (1,[]))++none::some (tm (aj 58))::none::fT 1 (xs.getD 2 (1,[])))
  else if o=23 then fT 9 (xs.getD 0 (1,[]))++none::some (tw bU)::none::some (tm (aj 123))::none::(fw xs.tail++[none,some (tm (aj 125))])
  else if o=1 then[some (td n)]
  else if o=3 then some (tn s)::some (tm (aj 91))::((xs.getD 0 (1,[])).2++[some (tm (aj 93))])
  else if o=24 then[some (tn kP),some (tm (aj 40)),some (tn s),some (tm (aj 41))]
  else if o=25 then some (tn gC)::some (tm (aj 40))::((xs.getD 0 (1,[])).2++[some (tm (aj 41))])
  else(kw s).map some
mutual
def pcE:Ex→Pc
 | .mk o n s l=>jj o n s (ry l)
def ry:List Ex→List (Int×Pc)
 | []=>[]
 | a::r=>(a.op,pcE a)::ry r
end
theorem ue(l:List Ex):ry l=l.map fun a=>(a.op,pcE a):=by
 induction l with
 | nil=>rfl
 | cons a r ih=>simp only[ry,ih,List.map_cons]
def aX(e:Ex):Bs:=txt (pcE e)
theorem Df(k:Nat)(a:Int×Pc):tks (fT k a)=ey k (a.1,tks a.2):=by
 unfold fT ey;simp only;split
 ·simp only[tks,dc]
 ·rfl
theorem qm:∀xs:List (Int×Pc),tks (fw xs)=d7 (xs.map fun a=>(a.1,tks a.2))
 | []=>rfl
 | [_]=>rfl
 | [a,b]=>by simp only[fw,List.map_cons,List.map_nil,d7,dc,tks]
 | a::b::c::r=>by
  have:=qm (c::r);simp only[fw,dc,tks,this];rfl
theorem DP(xs:List (Int×Pc))(i:Nat):(xs.map fun a=>(a.1,tks a.2)).getD i (1,[])=((xs.getD i (1,[])).1,tks (xs.getD i (1,[])).2):=by
 rw[List.getD_eq_getElem?_getD,List.getD_eq_getElem?_getD,List.getElem?_map];cases xs[i]?<;>rfl
theorem BE(o n:Int)(s:ByteArray)(xs:List (Int×Pc)):tks (jj o n s xs)=jl o n s (xs.map fun a=>(a.1,tks a.2)):=by
 unfold jj jl;simp only[DP];cases fD o with
 | some p=>simp only[dc,tks,Df]
 | none=>
  simp only;repeat' split
  all_goals simp only[dc,tks,Df,qm,tM,List.map_tail]
theorem CJ(e:Ex):tks (pcE e)=bh e:=by
 induction e using Ex.ind with
 | h o n s l ih=>
 show tks (jj o n s (ry l))=jl o n s (dJ l);rw[BE,ue,wR,List.map_map];congr 1;exact List.map_congr_left fun a ha=>by simp only[Function.comp,ih a ha]
theorem bA{c:UInt8}(h:c∈oi){X:Pc}{q:Bs}(hk:Kq (txt X++q))(hX:gZ X q):gZ (some (tm (aj c))::X) q:=⟨AW h hk,hX⟩
theorem bH{t:Tok}(h:cK t=true){X:Pc}{q:Bs}(hX:gZ X q):gZ (some t::none::X) q:=⟨vQ h _,hX⟩
theorem eG{t:Tok}(h:cK t=true)(hk:t.kind≠4){X:Pc}{q:Bs}(hq:Hq (txt X++q))(hX:gZ X q):gZ (some t::X) q:=⟨qi h hk hq,hX⟩
structure GT(X:Pc):Prop where
 g:∀q,Hq q→gZ X q
 h:Hd X
theorem nF{c:UInt8}(h:c∈oi){X:Pc}(hX:GT X):GT (some (tm (aj c))::X):=
 ⟨fun q hq=>bA h (hX.h.q q) (hX.g q hq),lz h _⟩
theorem oD(k:Nat){o:Int}{X:Pc}(hX:GT X):GT (fT k (o,X)):=by
 unfold fT;simp only;split
 ·refine⟨fun q hq=>bA (by decide) ?_ (bG _ _ q (hX.g _ (bW (by decide))) (bA (by decide) ?_ trivial)),lz (by decide) _⟩
  ·rw[bD,List.append_assoc];exact hX.h.q _
  ·exact hq.k
 ·exact hX
theorem rG{X Y:Pc}{m:ByteArray}(hm:cK (tm m)=true)(hX:GT X)(hY:GT Y):GT (X++none::some (tm m)::none::Y):=
 ⟨fun q hq=>bG _ _ q (hX.g _ (bW (by decide))) (bH hm (hY.g q hq)),hX.h.app _⟩
theorem tr:∀(l:List (Int×Pc)),(∀a,a∈l→GT a.2)→∀q,Hq q→gZ (fw l) q
 | [],_,_,_=>trivial
 | [_],_,_,_=>trivial
 | [a,b],h,q,hq=>(rG (bJ (aO 46 46) (by simp)) (h a (by simp)) (h b (by simp))).g q hq
 | a::b::c::r,h,q,hq=>by
  have ih:=tr (c::r) (fun x hx=>h x (by simp only[List.mem_cons]at hx ⊢;exact .inr (.inr hx))) q hq;refine bG _ _ q ((h a (by simp)).g _ (bW (by decide))) (bH (bJ (aO 46 46) (by simp)) ?_);refine bG _ _ q ((h b (by simp)).g _ (bW (by decide))) ?_;exact bH (bJ (aj 44) (by simp)) ih
theorem dN{s:ByteArray}(h:a8 s=true):cK (tn s)=true:=by
 unfold cK tn;simp[h]
theorem ln{n:Int}(h0:0≤n)(h1:n≤65535):cK (td n)=true:=by
 unfold cK td ta;simp only[if_true,Bool.and_eq_true,decide_eq_true_eq,beq_iff_eq];exact⟨⟨h0,by omega⟩,by simp⟩
theorem i8(s:ByteArray):(tn s).kind≠4:=by show(1:Int)≠4;decide
theorem xV(n:Int):(td n).kind≠4:=by show(3:Int)≠4;decide
theorem rY{t:Tok}(h:cK t=true)(hk:t.kind≠4):GT [some t]:=
 ⟨fun q hq=>eG h hk hq trivial,gX h hk _⟩
theorem Ht(e:Ex):dz e=0→GT (pcE e):=by
 induction e using Ex.ind with
 | h o n s l ih=>
 intro he;obtain⟨hnode,hargs⟩:=kB he;obtain⟨o1,o25,hc,hop,hvar,hname,hn0,hs0⟩:=kM hnode;have hrt:∀a,a∈l→GT (pcE a):=fun a ha=>ih a ha (hargs a ha);by_cases c1:o=1
 ·subst c1;obtain⟨h0,h1⟩:=hc rfl;show GT [some (td n)];exact rY (ln h0 h1) (xV _)
 by_cases c2:o=2
 ·subst c2;have hv:=hvar rfl;show GT ((kw s).map some);by_cases hel:fW s=true
  ·obtain⟨g1,g2,g3,g4⟩:=jS hel;rw[show kw s=[tn (gD s 91),tm (aj 64),td (c6 s)]from if_pos hel];have h1:=rY (ln g2 (by omega)) (xV _);have h2:=nF (c:=64) (by decide) h1;exact⟨fun q hq=>eG (dN g1) (i8 _) (bW (by decide)) (h2.g q hq),gX (dN g1) (i8 _) _⟩
  ·have hnm:a8 s=true:=by
    unfold ez at hv;rw[Bool.or_eq_true]at hv;exact hv.resolve_left hel
   rw[show kw s=[tn s]from if_neg hel];exact rY (dN hnm) (i8 _)
 by_cases c3:o=3
 ·subst c3;have hnm:=hname (.inl rfl)
  have hl:l.length=1:=by have:(l.length:Int)=1:=by simpa[bK,cy]using hop
                         omega
  obtain⟨x,rfl⟩:=List.length_eq_one_iff.1 hl;have hx:=hrt x (by simp);show GT (some (tn s)::some (tm (aj 91))::(pcE x++[some (tm (aj 93))]));refine⟨fun q hq=>eG (dN hnm) (i8 _) (bW (by decide)) (bA (by decide) ?_ (bG _ _ q (hx.g _ (bW (by decide))) (bA (by decide) hq.k trivial))),gX (dN hnm) (i8 _) _⟩;rw[bD,List.append_assoc];exact hx.h.q _
 by_cases c24:o=24
 ·subst c24;have hnm:=hname (.inr rfl);show GT [some (tn kP),some (tm (aj 40)),some (tn s),some (tm (aj 41))];have hsw:a8 kP=true:=by decide +kernel
  refine⟨fun q hq=>eG (dN hsw) (i8 _) (bW (by decide)) (bA (by decide) ?_ (eG (dN hnm) (i8 _) (bW (by decide)) (bA (by decide) hq.k trivial))),gX (dN hsw) (i8 _) _⟩;exact(gX (dN hnm) (i8 _) _).q _
 by_cases c25:o=25
 ·subst c25
  have hl:l.length=1:=by have:(l.length:Int)=1:=by simpa[bK,cy]using hop
                         omega
  obtain⟨x,rfl⟩:=List.length_eq_one_iff.1 hl;have hx:=hrt x (by simp);have how:a8 gC=true:=by decide +kernel
  show GT (some (tn gC)::some (tm (aj 40))::(pcE x++[some (tm (aj 41))]));refine⟨fun q hq=>eG (dN how) (i8 _) (bW (by decide)) (bA (by decide) ?_ (bG _ _ q (hx.g _ (bW (by decide))) (bA (by decide) hq.k trivial))),gX (dN how) (i8 _) _⟩;rw[bD,List.append_assoc];exact hx.h.q _
 by_cases c456:o=4∨o=5∨o=6
 ·have hl:l.length=1:=by
   have:(l.length:Int)=1:=by
    rcases c456 with rfl|rfl|rfl<;>simpa[bK,cy]using hop
   omega
  obtain⟨x,rfl⟩:=List.length_eq_one_iff.1 hl;have hx:=oD 13 (o:=x.op) (hrt x (by simp));rcases c456 with rfl|rfl|rfl
  ·exact nF (c:=33) (by decide) hx
  ·exact nF (c:=126) (by decide) hx
  ·exact nF (c:=45) (by decide) hx
 by_cases c22:o=22
 ·subst c22
  have hl:l.length=3:=by have:(l.length:Int)=3:=by simpa[bK,cy]using hop
                         omega
  match l,hl with
  | [x,y,z],_=>
   exact rG (bJ (aj 63) (by simp)) (oD 2 (o:=x.op) (hrt x (by simp))) (rG (bJ (aj 58) (by simp)) (oD 1 (o:=y.op) (hrt y (by simp))) (oD 1 (o:=z.op) (hrt z (by simp))))
 by_cases c23:o=23
 ·subst c23
  have hl:l.length%2=1∧3≤l.length:=by
   have:(decide (l.length%2=1)&&decide (3≤l.length)&&decide (l.length≤33))=true:=by simpa[bK]using hop
   simp only[Bool.and_eq_true,decide_eq_true_eq]at this;exact this.1
  match l,hl with
  | x::m,⟨h1,h2⟩=>
   have hx:=oD 9 (o:=x.op) (hrt x (by simp));show GT (fT 9 (x.op,pcE x)++none::some (tw bU)::none::some (tm (aj 123))::none::(fw (ry m)++[none,some (tm (aj 125))]));refine⟨fun q hq=>bG _ _ q (hx.g _ (bW (by decide))) (bH rf (bH (bJ (aj 123) (by simp)) ?_)),hx.h.app _⟩;refine bG _ _ q (tr _ ?_ _ (bW (by decide))) (bA (by decide) hq.k trivial);intro a ha;rw[ue]at ha;obtain⟨b,hb,rfl⟩:=List.mem_map.1 ha;exact hrt b (by simp[hb])
 have hl:l.length=2:=by
  have:(l.length:Int)=2:=by
   have h1:(l.length:Int)=cy o:=by unfold bK at hop;rw[if_neg c23]at hop;exact of_decide_eq_true hop
   rw[h1];unfold cy;rw[if_neg (by omega),if_neg (by omega),if_neg c22,if_neg c23,if_neg (by omega)]
  omega
 match l,hl with
 | [x,y],_=>
  obtain⟨k,hk⟩:=Int.eq_ofNat_of_zero_le (show 0≤o by omega);have hb:=sH k (by omega) (by omega);rw[←hk]at hb;obtain⟨⟨m,p⟩,hp⟩:=Option.isSome_iff_exists.1 hb;show GT (jj o n s [(x.op,pcE x),(y.op,pcE y)]);unfold jj;rw[hp];exact rG (u7 _ (ip hp)) (oD _ (o:=x.op) (hrt x (by simp))) (oD _ (o:=y.op) (hrt y (by simp)))
end Go.Proofs.YthekkgfmagliiaaGreatDoor
