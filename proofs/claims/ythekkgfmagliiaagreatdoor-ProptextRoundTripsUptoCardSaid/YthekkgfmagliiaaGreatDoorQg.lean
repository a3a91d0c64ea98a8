import Derived.Test.YthekkgfmagliiaaGreatDoorTProp
set_option linter.unusedVariables false
set_option linter.unusedSimpArgs false
set_option linter.unusedSectionVars false
open Bool renaming and_eq_true->RS,or_eq_true->RU,false_eq_true->RW,not_eq_true'->RX
open Classical renaming byContradiction->RY
open Int renaming eq_ofNat_of_zero_le->RZ
open List renaming length_append->R0,length_cons->R5,cons_append->R6,length_nil->R7,eq_nil_of_length_eq_zero->R8,append_assoc->R9,map_cons->Sa,append_nil->Sb,head?_cons->Sc,getD_eq_getElem?_getD->Sd,mem_cons->Se,map_nil->Sf,map_map->Si
namespace Go.Proofs.YthekkgfmagliiaaGreatDoor
open Go.RowKit
abbrev Pc:=List (Option Tok)
def txt:Pc->Bs
 | []=>[]
 | none::r=>32::txt r
 | some t::r=>t.text.data.toList++txt r
def tks:Pc->List Tok
 | []=>[]
 | none::r=>tks r
 | some t::r=>t::tks r
theorem bT:∀a b:Pc,txt (a++b)=txt a++txt b
 | [],b=>rfl
 | none::r,b=>by simp only[R6,txt,bT r b]
 | some t::r,b=>by simp only[R6,txt,bT r b,R9]
theorem dW:∀a b:Pc,tks (a++b)=tks a++tks b
 | [],b=>rfl
 | none::r,b=>by simp only[R6,tks,dW r b]
 | some t::r,b=>by simp only[R6,tks,dW r b]
theorem wL:∀l:List Tok,tks (l.map some)=l
 | []=>rfl
 | t::r=>by simp only[Sa,tks,wL r]
structure Fine(t:Tok)(q:Bs):Prop where
 v:bC t=true
 n:t.text.data.toList≠[]
 r:bY (t.text.data.toList++q)=.tok t.kind t.num t.text.data.toList.length
 s:bM (t.text.data.toList++q)=t.text.data.toList++q
def fz:Pc->Bs->Prop
 | [],_=>True
 | none::r,q=>fz r q
 | some t::r,q=>Fine t (txt r++q)/\fz r q
theorem b7:∀(a b:Pc) (q:Bs),fz a (txt b++q)->fz b q->fz (a++b) q
 | [],_,_,_,h=>h
 | none::r,b,q,h,h2=>b7 r b q h h2
 | some t::r,b,q,h,h2=>⟨by have h1:=h.1;show Fine t (txt (r++b)++q);rw[bT,R9];exact h1,b7 r b q h.2 h2⟩
theorem mc:∀(X:Pc) (N:Int),fz X []->d8 N (txt X)=.ok ((tks X).map fun t=>⟨t.kind,t.num,t.text,N⟩)/\(txt X).count 10=0
 | [],N,_=>⟨by show d8 N []=_;rw[bF,dZ];rfl,rfl⟩
 | none::r,N,h=>by
  obtain⟨h1,h2⟩:=mc r N h;refine⟨?_,by simp only[txt];rw[List.count_cons_of_ne (by decide)];exact h2⟩;simp only[txt,tks];rw[<-ul,zA (by decide),ul];exact h1
 | some t::r,N,h=>by
  obtain⟨h1,h2⟩:=mc r N h.2;have hf:=h.1;rw[Sb]at hf;have h0:=DU hf.v;have h3:(txt (some t::r)).count 10=0:=by simp only[txt];rw[List.count_append,h0,h2]
  refine⟨?_,h3⟩;have hs:=hf.s;have hr:=hf.r;have hn:=hf.n;have htx:=nM t.text;simp only[txt]at h3;simp only[txt,tks,Sa];rw[bF,hs];have hlen:(t.text.data.toList++txt r).drop t.text.data.toList.length=txt r:=by simp
  have htk:(t.text.data.toList++txt r).take t.text.data.toList.length=t.text.data.toList:=by simp
  generalize hg:t.text.data.toList++txt r=g at *
  match g,hg with
  | [],hg=>simp at hg;exact absurd hg.1 (by simpa using hn)
  | c::g,hg=>
   simp only[hr];rw[hlen,h1];simp only[Lx.cons,gJ,htk,htx,h3];congr 2;congr 1;omega
def Kq(q:Bs):Prop:=∀x,q.head? = some x->x≠61/\x≠62
def Hq(q:Bs):Prop:=∀x,q.head? = some x->inn x=false/\x≠61/\x≠62
theorem Hq.k{q:Bs}(h:Hq q):Kq q:=fun x hx=>(h x hx).2
theorem G9:Hq []:=fun x h=>by simp at h
theorem cw{c:UInt8}{q:Bs}(h:c∈[(32:UInt8),40,41,91,93,64,44]):Hq (c::q):=by
 intro x hx;simp only[Sc,Option.some.injEq]at hx;subst hx;exact(by decide:∀c,c∈[(32:UInt8),40,41,91,93,64,44]->inn c=false/\c≠61/\c≠62) c h
theorem um{t:Tok}(h:bC t=true)(hk:t.kind≠4){q:Bs}(hq:Hq q):Fine t q:=by
 have hqi:∀x,q.head? = some x->inn x=false:=fun x hx=>(hq x hx).1
 suffices H:t.text.data.toList≠[]/\bY (t.text.data.toList++q)=.tok t.kind t.num t.text.data.toList.length/\bM (t.text.data.toList++q)=t.text.data.toList++q from⟨h,H.1,H.2.1,H.2.2⟩
 unfold bC at h;split at h
 .rename_i hk;simp only[RS,decide_eq_true_eq,beq_iff_eq]at h;obtain⟨⟨h0,h1⟩,h2⟩:=h;obtain⟨c,r,h3,h4,h5⟩:=rQ t.num.toNat;have hd:=qh t.num.toNat;have hv:=Bw t.num.toNat;rw[h2,h3]at *;have hin:∀x,x∈c::r->inn x=true:=fun x hx=>by have:=hd x hx;simp[inn,fm,this]
  have htw:=mK hin hqi;have hdc:=hd c (by simp);obtain⟨hb,h47⟩:=iO (.inr hdc);refine⟨by simp,?_,?_⟩
  .rw[R6]at htw ⊢;simp only[bY,htw,pR hdc,hdc,hv,if_true,RW,if_false];rw[if_neg,if_neg (by omega)]
   .rw[hk];congr 1;omega
   .rintro(ha|⟨ha,rfl⟩)
    .have:((c::r).all fun x=>cZ x.toNat)=true:=List.all_eq_true.2 hd;rw[this]at ha;cases ha
    .by_cases h10:t.num.toNat<10
     .rw[h5 h10]at ha;simp at ha
     .exact h4 (by omega) rfl
  .rw[R6];exact dO hb h47
 .split at h
  .rename_i hk;simp only[RS,decide_eq_true_eq]at h;obtain⟨h0,h1⟩:=h;simp only[bt,RS,decide_eq_true_eq,RX]at h1;obtain⟨⟨hw,hz⟩,hkw⟩:=h1;unfold fv at hw;have htx:=nM t.text;rw[Lib.size_eq]at hz;generalize hl:t.text.data.toList=l at *
   match l,hw with
   | c::r,hw=>
    simp only[jf,RS]at hw;have hin:∀x,x∈c::r->inn x=true:=fun x hx=>List.all_eq_true.1 hw.2 x hx;have htw:=mK hin hqi;obtain⟨hb,h47⟩:=iO (.inl hw.1);refine⟨by simp,?_,?_⟩
    .rw[R6]at htw ⊢;simp only[bY,htw,hw.1,if_true];rw[if_neg (by omega),htx,hkw,hk,h0];rfl
    .rw[R6];exact dO hb h47
  .split at h
   .rename_i hk;simp only[RS,decide_eq_true_eq]at h;obtain⟨h0,h1⟩:=h;have hf:=rt _ (vb h1);have htx:=nM t.text;generalize hl:t.text.data.toList=l at *
    match l,hf with
    | c::r,hf=>
     simp only[RS,decide_eq_true_eq]at hf;obtain⟨⟨hlow,hall⟩,hz⟩:=hf;have hin:∀x,x∈c::r->inn x=true:=fun x hx=>List.all_eq_true.1 hall x hx;have htw:=mK hin hqi;obtain⟨hb,h47⟩:=iO (.inl hlow);refine⟨by simp,?_,?_⟩
     .rw[R6]at htw ⊢;simp only[bY,htw,hlow,if_true];rw[if_neg (by omega),htx,h1,hk,h0];rfl
     .rw[R6];exact dO hb h47
   .cases h
def qY:List UInt8:=[40,41,91,93,123,125,64,44,33,126,45]
theorem zh:∀c,c∈qY->[c]∈aS/\cG [c]=1/\bC (tm (aa c))=true/\fj c.toNat=false/\cZ c.toNat=false/\j9 c=false/\c≠47:=by decide +kernel
theorem EB:∀c,c∈qY->∀n:Nat,n<256->n≠61->n≠62->cG [c,UInt8.ofNat n]=1:=by decide +kernel
theorem Dw{c:UInt8}(h:c∈qY){q:Bs}(hq:Kq q):Fine (tm (aa c)) q:=by
 obtain⟨h1,h2,h3,h4,h5,h6,h7⟩:=zh c h
 have hb:cG (c::q)=1:=by
  rw[lU]
  match q,hq with
  | [],_=>exact h2
  | x::q,hq=>
   have hx:=hq x rfl;have hl:x.toNat<256:=x.toNat_lt;have hx1:x.toNat≠61:=fun e=>hx.1 (UInt8.toNat.inj e);have hx2:x.toNat≠62:=fun e=>hx.2 (UInt8.toNat.inj e);have:=EB c h x.toNat hl hx1 hx2;rw[UInt8.ofNat_toNat]at this;exact this
 refine⟨h3,by simp[tm,aa],?_,dO h6 h7⟩;show bY (c::q)=.tok 4 0 1;simp only[bY,h4,h5,hb];rfl
theorem yP{t:Tok}(h:bC t=true)(q:Bs):Fine t (32::q):=by
 have hb:zm (32::q):=fun x hx=>by simp only[Sc,Option.some.injEq]at hx;subst hx;decide
 obtain⟨h1,h2,h3⟩:=sd h hb;exact⟨h,h1,h2,h3⟩
theorem cA(c:UInt8)(X:Pc):txt (some (tm (aa c))::X)=c::txt X:=rfl
structure Hd(X:Pc):Prop where
 n:txt X≠[]
 k:Kq (txt X)
theorem Hd.q{X:Pc}(h:Hd X)(q:Bs):Kq (txt X++q):=by
 have h1:=h.n;have h2:=h.k;cases e:txt X with
 | nil=>exact absurd e h1
 | cons c r=>rw[e]at h2;exact fun x hx=>h2 x hx
theorem Hd.app{X:Pc}(h:Hd X)(Y:Pc):Hd (X++Y):=by
 refine⟨by rw[bT];simp[h.n],by rw[bT];exact h.q _⟩
theorem nu{c:UInt8}(h:c∈qY)(X:Pc):Hd (some (tm (aa c))::X):=
 ⟨by rw[cA];simp,by
   intro x hx;rw[cA]at hx;simp only[Sc,Option.some.injEq]at hx;subst hx;exact(by decide:∀c,c∈qY->c≠61/\c≠62) c h⟩
theorem jr{t:Tok}(h:bC t=true)(hk:t.kind≠4)(X:Pc):Hd (some t::X):=by
 have hf:=um h hk G9;have hn:=hf.n;have hr:=hf.r;refine⟨by simp[txt,hn],?_⟩;simp only[txt];cases e:t.text.data.toList with
 | nil=>exact absurd e hn
 | cons c r=>
  rw[e]at hr;intro x hx;simp only[R6,Sc,Option.some.injEq]at hx;subst hx;rw[Sb]at hr;simp only[bY]at hr;have hne:∀c:UInt8,c=61\/c=62->fj c.toNat=false/\cZ c.toNat=false:=by rintro c (rfl|rfl)<;>decide
  have:¬(c=61\/c=62):=by
   intro hc;obtain⟨g1,g2⟩:=hne c hc;simp only[g1,g2,RW,if_false]at hr;split at hr
   .cases hr
   .injection hr with h1;exact hk h1.symm
  exact⟨fun e=>this (.inl e),fun e=>this (.inr e)⟩
def iw(k:Nat)(a:Int×Pc):Pc:=if lx a.1<k then some (tm (aa 40))::(a.2++[some (tm (aa 41))])else a.2
def gP:List (Int×Pc)->Pc
 | []=>[]
 | [_]=>[]
 | [a,b]=>a.2++none::some (tm (aE 46 46))::none::b.2
 | a::b::c::r=>a.2++none::some (tm (aE 46 46))::none::(b.2++some (tm (aa 44))::none::gP (c::r))
def lF(o n:Int)(s:ByteArray)(xs:List (Int×Pc)):Pc:=match io o with
 | some (m,l)=>iw (if l=2 then 3 else l) (xs.getD 0 (1,[]))++none::some (tm m)::none::iw (if l=2 then 2 else l+1) (xs.getD 1 (1,[]))
 | none=>
  if o=4 then some (tm (aa 33))::iw 13 (xs.getD 0 (1,[]))
  else if o=5 then some (tm (aa 126))::iw 13 (xs.getD 0 (1,[]))
  else if o=6 then some (tm (aa 45))::iw 13 (xs.getD 0 (1,[]))
  else if o=22 then iw 2 (xs.getD 0 (1,[]))++none::some (tm (aa 63))::none::(iw 1 (xs.getD 1 (1,[]))++none::some (tm (aa 58))::none::iw 1 (xs.getD 2 (1,[])))
  else if o=23 then iw 9 (xs.getD 0 (1,[]))++none::some (tw bX)::none::some (tm (aa 123))::none::(gP xs.tail++[none,some (tm (aa 125))])
  else if o=1 then[some (td n)]
  else if o=3 then some (tn s)::some (tm (aa 91))::((xs.getD 0 (1,[])).2++[some (tm (aa 93))])
  else if o=24 then[some (tn kg),some (tm (aa 40)),some (tn s),some (tm (aa 41))]
  else if o=25 then some (tn fV)::some (tm (aa 40))::((xs.getD 0 (1,[])).2++[some (tm (aa 41))])
  else(mB s).map some
mutual
def pcE:Ex->Pc
 | .mk o n s l=>lF o n s (uW l)
def uW:List Ex->List (Int×Pc)
 | []=>[]
 | a::r=>(a.op,pcE a)::uW r
end
theorem yw(l:List Ex):uW l=l.map fun a=>(a.op,pcE a):=by
 induction l with
 | nil=>rfl
 | cons a r ih=>simp only[uW,ih,Sa]
def bj(e:Ex):Bs:=txt (pcE e)
theorem Ij(k:Nat)(a:Int×Pc):tks (iw k a)=fK k (a.1,tks a.2):=by
 unfold iw fK;simp only;split
 .simp only[tks,dW]
 .rfl
theorem ud:∀xs:List (Int×Pc),tks (gP xs)=fp (xs.map fun a=>(a.1,tks a.2))
 | []=>rfl
 | [_]=>rfl
 | [a,b]=>by simp only[gP,Sa,Sf,fp,dW,tks]
 | a::b::c::r=>by
  have:=ud (c::r);simp only[gP,dW,tks,this];rfl
theorem GW(xs:List (Int×Pc))(i:Nat):(xs.map fun a=>(a.1,tks a.2)).getD i (1,[])=((xs.getD i (1,[])).1,tks (xs.getD i (1,[])).2):=by
 rw[Sd,Sd,List.getElem?_map];cases xs[i]?<;>rfl
theorem Iy(o n:Int)(s:ByteArray)(xs:List (Int×Pc)):tks (lF o n s xs)=lk o n s (xs.map fun a=>(a.1,tks a.2)):=by
 unfold lF lk;simp only[GW];cases io o with
 | some p=>simp only[dW,tks,Ij]
 | none=>
  simp only;repeat' split
  all_goals simp only[dW,tks,Ij,ud,wL,List.map_tail]
theorem GM(e:Ex):tks (pcE e)=bG e:=by
 induction e using Ex.ind with
 | h o n s l ih=>
 show tks (lF o n s (uW l))=lk o n s (eJ l);rw[Iy,yw,y7,Si];congr 1;exact List.map_congr_left fun a ha=>by simp only[Function.comp,ih a ha]
theorem bQ{c:UInt8}(h:c∈qY){X:Pc}{q:Bs}(hk:Kq (txt X++q))(hX:fz X q):fz (some (tm (aa c))::X) q:=⟨Dw h hk,hX⟩
theorem b6{t:Tok}(h:bC t=true){X:Pc}{q:Bs}(hX:fz X q):fz (some t::none::X) q:=⟨yP h _,hX⟩
theorem fS{t:Tok}(h:bC t=true)(hk:t.kind≠4){X:Pc}{q:Bs}(hq:Hq (txt X++q))(hX:fz X q):fz (some t::X) q:=⟨um h hk hq,hX⟩
structure GT(X:Pc):Prop where
 g:∀q,Hq q->fz X q
 h:Hd X
theorem qf{c:UInt8}(h:c∈qY){X:Pc}(hX:GT X):GT (some (tm (aa c))::X):=
 ⟨fun q hq=>bQ h (hX.h.q q) (hX.g q hq),nu h _⟩
theorem sD(k:Nat){o:Int}{X:Pc}(hX:GT X):GT (iw k (o,X)):=by
 unfold iw;simp only;split
 .refine⟨fun q hq=>bQ (by decide) ?_ (b7 _ _ q (hX.g _ (cw (by decide))) (bQ (by decide) ?_ trivial)),nu (by decide) _⟩
  .rw[bT,R9];exact hX.h.q _
  .exact hq.k
 .exact hX
theorem vL{X Y:Pc}{m:ByteArray}(hm:bC (tm m)=true)(hX:GT X)(hY:GT Y):GT (X++none::some (tm m)::none::Y):=
 ⟨fun q hq=>b7 _ _ q (hX.g _ (cw (by decide))) (b6 hm (hY.g q hq)),hX.h.app _⟩
theorem xT:∀(l:List (Int×Pc)),(∀a,a∈l->GT a.2)->∀q,Hq q->fz (gP l) q
 | [],_,_,_=>trivial
 | [_],_,_,_=>trivial
 | [a,b],h,q,hq=>(vL (ca (aE 46 46) (by simp)) (h a (by simp)) (h b (by simp))).g q hq
 | a::b::c::r,h,q,hq=>by
  have ih:=xT (c::r) (fun x hx=>h x (by simp only[Se]at hx ⊢;exact .inr (.inr hx))) q hq;refine b7 _ _ q ((h a (by simp)).g _ (cw (by decide))) (b6 (ca (aE 46 46) (by simp)) ?_);refine b7 _ _ q ((h b (by simp)).g _ (cw (by decide))) ?_;exact b6 (ca (aa 44) (by simp)) ih
theorem eO{s:ByteArray}(h:bt s=true):bC (tn s)=true:=by
 unfold bC tn;simp[h]
theorem nR{n:Int}(h0:0≤n)(h1:n≤65535):bC (td n)=true:=by
 unfold bC td uT;simp only[if_true,RS,decide_eq_true_eq,beq_iff_eq];exact⟨⟨h0,by omega⟩,by simp⟩
theorem kN(s:ByteArray):(tn s).kind≠4:=by show(1:Int)≠4;decide
theorem Bb(n:Int):(td n).kind≠4:=by show(3:Int)≠4;decide
theorem vF{t:Tok}(h:bC t=true)(hk:t.kind≠4):GT [some t]:=
 ⟨fun q hq=>fS h hk hq trivial,jr h hk _⟩
theorem K2(e:Ex):dF e=0->GT (pcE e):=by
 induction e using Ex.ind with
 | h o n s l ih=>
 intro he;obtain⟨hnode,hargs⟩:=mX he;obtain⟨o1,o25,hc,hop,hvar,hname,hn0,hs0⟩:=mU hnode;have hrt:∀a,a∈l->GT (pcE a):=fun a ha=>ih a ha (hargs a ha);by_cases c1:o=1
 .subst c1;obtain⟨h0,h1⟩:=hc rfl;show GT [some (td n)];exact vF (nR h0 h1) (Bb _)
 by_cases c2:o=2
 .subst c2;have hv:=hvar rfl;show GT ((mB s).map some);by_cases hel:iz s=true
  .obtain⟨g1,g2,g3,g4⟩:=lS hel;rw[show mB s=[tn (iV s 91),tm (aa 64),td (dU s)]from if_pos hel];have h1:=vF (nR g2 (by omega)) (Bb _);have h2:=qf (c:=64) (by decide) h1;exact⟨fun q hq=>fS (eO g1) (kN _) (cw (by decide)) (h2.g q hq),jr (eO g1) (kN _) _⟩
  .have hnm:bt s=true:=by
    unfold fO at hv;rw[RU]at hv;exact hv.resolve_left hel
   rw[show mB s=[tn s]from if_neg hel];exact vF (eO hnm) (kN _)
 by_cases c3:o=3
 .subst c3;have hnm:=hname (.inl rfl)
  have hl:l.length=1:=by have:(l.length:Int)=1:=by simpa[ci,cX]using hop
                         omega
  obtain⟨x,rfl⟩:=List.length_eq_one_iff.1 hl;have hx:=hrt x (by simp);show GT (some (tn s)::some (tm (aa 91))::(pcE x++[some (tm (aa 93))]));refine⟨fun q hq=>fS (eO hnm) (kN _) (cw (by decide)) (bQ (by decide) ?_ (b7 _ _ q (hx.g _ (cw (by decide))) (bQ (by decide) hq.k trivial))),jr (eO hnm) (kN _) _⟩;rw[bT,R9];exact hx.h.q _
 by_cases c24:o=24
 .subst c24;have hnm:=hname (.inr rfl);show GT [some (tn kg),some (tm (aa 40)),some (tn s),some (tm (aa 41))];have hsw:bt kg=true:=by decide +kernel
  refine⟨fun q hq=>fS (eO hsw) (kN _) (cw (by decide)) (bQ (by decide) ?_ (fS (eO hnm) (kN _) (cw (by decide)) (bQ (by decide) hq.k trivial))),jr (eO hsw) (kN _) _⟩;exact(jr (eO hnm) (kN _) _).q _
 by_cases c25:o=25
 .subst c25
  have hl:l.length=1:=by have:(l.length:Int)=1:=by simpa[ci,cX]using hop
                         omega
  obtain⟨x,rfl⟩:=List.length_eq_one_iff.1 hl;have hx:=hrt x (by simp);have how:bt fV=true:=by decide +kernel
  show GT (some (tn fV)::some (tm (aa 40))::(pcE x++[some (tm (aa 41))]));refine⟨fun q hq=>fS (eO how) (kN _) (cw (by decide)) (bQ (by decide) ?_ (b7 _ _ q (hx.g _ (cw (by decide))) (bQ (by decide) hq.k trivial))),jr (eO how) (kN _) _⟩;rw[bT,R9];exact hx.h.q _
 by_cases c456:o=4\/o=5\/o=6
 .have hl:l.length=1:=by
   have:(l.length:Int)=1:=by
    rcases c456 with rfl|rfl|rfl<;>simpa[ci,cX]using hop
   omega
  obtain⟨x,rfl⟩:=List.length_eq_one_iff.1 hl;have hx:=sD 13 (o:=x.op) (hrt x (by simp));rcases c456 with rfl|rfl|rfl
  .exact qf (c:=33) (by decide) hx
  .exact qf (c:=126) (by decide) hx
  .exact qf (c:=45) (by decide) hx
 by_cases c22:o=22
 .subst c22
  have hl:l.length=3:=by have:(l.length:Int)=3:=by simpa[ci,cX]using hop
                         omega
  match l,hl with
  | [x,y,z],_=>
   exact vL (ca (aa 63) (by simp)) (sD 2 (o:=x.op) (hrt x (by simp))) (vL (ca (aa 58) (by simp)) (sD 1 (o:=y.op) (hrt y (by simp))) (sD 1 (o:=z.op) (hrt z (by simp))))
 by_cases c23:o=23
 .subst c23
  have hl:l.length%2=1/\3≤l.length:=by
   have:(decide (l.length%2=1)&&decide (3≤l.length)&&decide (l.length≤33))=true:=by simpa[ci]using hop
   simp only[RS,decide_eq_true_eq]at this;exact this.1
  match l,hl with
  | x::m,⟨h1,h2⟩=>
   have hx:=sD 9 (o:=x.op) (hrt x (by simp));show GT (iw 9 (x.op,pcE x)++none::some (tw bX)::none::some (tm (aa 123))::none::(gP (uW m)++[none,some (tm (aa 125))]));refine⟨fun q hq=>b7 _ _ q (hx.g _ (cw (by decide))) (b6 tl (b6 (ca (aa 123) (by simp)) ?_)),hx.h.app _⟩;refine b7 _ _ q (xT _ ?_ _ (cw (by decide))) (bQ (by decide) hq.k trivial);intro a ha;rw[yw]at ha;obtain⟨b,hb,rfl⟩:=List.mem_map.1 ha;exact hrt b (by simp[hb])
 have hl:l.length=2:=by
  have:(l.length:Int)=2:=by
   have h1:(l.length:Int)=cX o:=by unfold ci at hop;rw[if_neg c23]at hop;exact of_decide_eq_true hop
   rw[h1];unfold cX;rw[if_neg (by omega),if_neg (by omega),if_neg c22,if_neg c23,if_neg (by omega)]
  omega
 match l,hl with
 | [x,y],_=>
  obtain⟨k,hk⟩:=RZ (show 0≤o by omega);have hb:=vW k (by omega) (by omega);rw[<-hk]at hb;obtain⟨⟨m,p⟩,hp⟩:=Option.isSome_iff_exists.1 hb;show GT (lF o n s [(x.op,pcE x),(y.op,pcE y)]);unfold lF;rw[hp];exact vL (yS _ (jS hp)) (sD _ (o:=x.op) (hrt x (by simp))) (sD _ (o:=y.op) (hrt y (by simp)))
inductive Sh:Ex->Prop where
 | const (n:Int) (h0:0≤n) (h1:n≤65535):Sh (.mk 1 n ⟨#[]⟩ [])
 | var (s:ByteArray) (h:fO s=true):Sh (.mk 2 0 s [])
 | elem (s:ByteArray) (x:Ex) (h:bt s=true) (hx:dF x=0):Sh (.mk 3 0 s [x])
 | pre (o:Int) (x:Ex) (h:o=4\/o=5\/o=6) (hx:dF x=0):Sh (.mk o 0 ⟨#[]⟩ [x])
 | bin (o:Int) (m:ByteArray) (k:Nat) (x y:Ex) (h:io o=some (m,k)) (hx:dF x=0) (hy:dF y=0):Sh (.mk o 0 ⟨#[]⟩ [x,y])
 | ite (x y z:Ex) (hx:dF x=0) (hy:dF y=0) (hz:dF z=0):Sh (.mk 22 0 ⟨#[]⟩ [x,y,z])
 | inside (x:Ex) (l:List Ex) (hx:dF x=0) (hl:∀a,a∈l->dF a=0) (hev:l.length%2=0) (hne:2≤l.length) (h32:l.length≤32):Sh (.mk 23 0 ⟨#[]⟩ (x::l))
 | sum (s:ByteArray) (h:bt s=true):Sh (.mk 24 0 s [])
 | ones (x:Ex) (hx:dF x=0):Sh (.mk 25 0 ⟨#[]⟩ [x])
theorem KE{e:Ex}(he:dF e=0):Sh e:=by
 obtain⟨o,n,s,l⟩:=e;obtain⟨hnode,hargs⟩:=mX he;obtain⟨o1,o25,hc,hop,hvar,hname,hn0,hs0⟩:=mU hnode;by_cases c1:o=1
 .subst c1;have hl:l=[]:=R8 (by simpa[ci,cX]using hop);have hs:s=⟨#[]⟩:=hs0 (by decide);subst hl;subst hs;obtain⟨h0,h1⟩:=hc rfl;exact .const n h0 h1
 have hn:n=0:=hn0 c1;subst hn;by_cases c2:o=2
 .subst c2;have hl:l=[]:=R8 (by simpa[ci,cX]using hop);subst hl;exact .var s (hvar rfl)
 by_cases c3:o=3
 .subst c3;have hnm:=hname (.inl rfl)
  have hl:l.length=1:=by have:(l.length:Int)=1:=by simpa[ci,cX]using hop
                         omega
  obtain⟨x,rfl⟩:=List.length_eq_one_iff.1 hl;exact .elem s x hnm (hargs x (by simp))
 by_cases c24:o=24
 .subst c24;have hl:l=[]:=R8 (by simpa[ci,cX]using hop);subst hl;exact .sum s (hname (.inr rfl))
 have hs:s=⟨#[]⟩:=hs0 (by unfold dN;simp[c2,c3,c24]);subst hs;by_cases c25:o=25
 .subst c25
  have hl:l.length=1:=by have:(l.length:Int)=1:=by simpa[ci,cX]using hop
                         omega
  obtain⟨x,rfl⟩:=List.length_eq_one_iff.1 hl;exact .ones x (hargs x (by simp))
 by_cases c456:o=4\/o=5\/o=6
 .have hl:l.length=1:=by
   have:(l.length:Int)=1:=by
    rcases c456 with rfl|rfl|rfl<;>simpa[ci,cX]using hop
   omega
  obtain⟨x,rfl⟩:=List.length_eq_one_iff.1 hl;exact .pre o x c456 (hargs x (by simp))
 by_cases c22:o=22
 .subst c22
  have hl:l.length=3:=by have:(l.length:Int)=3:=by simpa[ci,cX]using hop
                         omega
  match l,hl,hargs with
  | [x,y,z],_,hargs=>exact .ite x y z (hargs x (by simp)) (hargs y (by simp)) (hargs z (by simp))
 by_cases c23:o=23
 .subst c23
  have hl:l.length%2=1/\3≤l.length/\l.length≤33:=by
   have:(decide (l.length%2=1)&&decide (3≤l.length)&&decide (l.length≤33))=true:=by simpa[ci]using hop
   simp only[RS,decide_eq_true_eq]at this;exact⟨this.1.1,this.1.2,this.2⟩
  match l,hl,hargs with
  | x::m,⟨h1,h2,h3⟩,hargs=>
   simp only[R5]at h1 h2 h3;exact .inside x m (hargs x (by simp)) (fun a ha=>hargs a (by simp[ha])) (by omega) (by omega) (by omega)
 have hl:l.length=2:=by
  have:(l.length:Int)=2:=by
   have h1:(l.length:Int)=cX o:=by unfold ci at hop;rw[if_neg c23]at hop;exact of_decide_eq_true hop
   rw[h1];unfold cX;rw[if_neg (by omega),if_neg (by omega),if_neg c22,if_neg c23,if_neg (by omega)]
  omega
 match l,hl,hargs with
 | [x,y],_,hargs=>
  obtain⟨k,hk⟩:=RZ (show 0≤o by omega);have hb:=vW k (by omega) (by omega);rw[<-hk]at hb;obtain⟨⟨m,p⟩,hp⟩:=Option.isSome_iff_exists.1 hb;exact .bin o m p x y hp (hargs x (by simp)) (hargs y (by simp))
def opS(k:Nat)(x:Ex):Bs:=if lx x.op<k then 40::(bj x++[41])else bj x
theorem kL(k:Nat)(x:Ex):txt (iw k (x.op,pcE x))=opS k x:=by
 unfold iw opS;simp only;split
 .rw[cA,bT,cA];rfl
 .rfl
theorem eB(t:Tok)(X:Pc):txt (some t::X)=t.text.data.toList++txt X:=rfl
theorem dv(X:Pc):txt (none::X)=32::txt X:=rfl
theorem vR:txt []=[]:=rfl
theorem qR(n:Int):bj (.mk 1 n ⟨#[]⟩ [])=Lib.decDigits n.toNat:=by
 show txt [some (td n)]=_;rw[eB,vR,Sb];rfl
theorem tE(s:ByteArray)(x:Ex):bj (.mk 3 0 s [x])=s.data.toList++91::(bj x++[93]):=by
 show txt (some (tn s)::some (tm (aa 91))::(pcE x++[some (tm (aa 93))]))=_;rw[eB,cA,bT,cA];rfl
theorem xj(s:ByteArray):bj (.mk 24 0 s [])=[115,117,109,40]++(s.data.toList++[41]):=by
 show txt [some (tn kg),some (tm (aa 40)),some (tn s),some (tm (aa 41))]=_;rw[eB,cA,eB,cA];rfl
theorem uv(x:Ex):bj (.mk 25 0 ⟨#[]⟩ [x])=[111,110,101,115,40]++(bj x++[41]):=by
 show txt (some (tn fV)::some (tm (aa 40))::(pcE x++[some (tm (aa 41))]))=_;rw[eB,cA,bT,cA];rfl
theorem BH(x y z:Ex):bj (.mk 22 0 ⟨#[]⟩ [x,y,z])=opS 2 x++([32,63,32]++(opS 1 y++([32,58,32]++opS 1 z))):=by
 show txt (iw 2 (x.op,pcE x)++none::some (tm (aa 63))::none::(iw 1 (y.op,pcE y)++none::some (tm (aa 58))::none::iw 1 (z.op,pcE z)))=_;rw[bT,dv,cA,dv,bT,dv,cA,dv,kL,kL,kL];rfl
theorem v7{o:Int}{m:ByteArray}{k:Nat}(h:io o=some (m,k))(x y:Ex):bj (.mk o 0 ⟨#[]⟩ [x,y])=opS (if k=2 then 3 else k) x++(32::(m.data.toList++(32::opS (if k=2 then 2 else k+1) y))):=by
 show txt (lF o 0 ⟨#[]⟩ [(x.op,pcE x),(y.op,pcE y)])=_;unfold lF;rw[h];simp only;rw[bT,dv,eB,dv];show txt (iw _ (x.op,pcE x))++(32::(m.data.toList++(32::txt (iw _ (y.op,pcE y)))))=_;rw[kL,kL]
theorem Jn:∀o,o∈[(4:Int),5,6]->io o=none:=by decide +kernel
def iJ(o:Int):Bs:=if o=4 then[33]else if o=5 then[126]else if o=6 then[45]else[]
theorem v8{o:Int}(h:o=4\/o=5\/o=6)(x:Ex):bj (.mk o 0 ⟨#[]⟩ [x])=iJ o++opS 13 x:=by
 rcases h with rfl|rfl|rfl
 .show txt (some (tm (aa 33))::iw 13 (x.op,pcE x))=_;rw[cA,kL];rfl
 .show txt (some (tm (aa 126))::iw 13 (x.op,pcE x))=_;rw[cA,kL];rfl
 .show txt (some (tm (aa 45))::iw 13 (x.op,pcE x))=_;rw[cA,kL];rfl
def gf:List Ex->Bs
 | []=>[]
 | [_]=>[]
 | [a,b]=>bj a++([32,46,46,32]++bj b)
 | a::b::c::r=>(bj a++([32,46,46,32]++bj b))++([44,32]++gf (c::r))
theorem ub:∀l:List Ex,txt (gP (uW l))=gf l
 | []=>rfl
 | [_]=>rfl
 | [a,b]=>by
  show txt (pcE a++none::some (tm (aE 46 46))::none::pcE b)=_;rw[bT,dv,eB,dv];rfl
 | a::b::c::r=>by
  have:=ub (c::r);show txt (pcE a++none::some (tm (aE 46 46))::none::(pcE b++some (tm (aa 44))::none::gP (uW (c::r))))=_;rw[bT,dv,eB,dv,bT,cA,dv,this];simp only[gf,bj,R9];rfl
theorem pQ(x:Ex)(l:List Ex):bj (.mk 23 0 ⟨#[]⟩ (x::l))=opS 9 x++([32,105,110,115,105,100,101,32,123,32]++(gf l++[32,125])):=by
 show txt (iw 9 (x.op,pcE x)++none::some (tw bX)::none::some (tm (aa 123))::none::(gP (uW l)++[none,some (tm (aa 125))]))=_;rw[bT,dv,eB,dv,cA,dv,bT,ub,dv,cA,kL];rfl
theorem wV(s:ByteArray):bj (.mk 2 0 s [])=if iz s=true then(iV s 91).data.toList++64::Lib.decDigits (dU s).toNat else s.data.toList:=by
 show txt ((mB s).map some)=_;unfold mB;split
 .show txt [some (tn (iV s 91)),some (tm (aa 64)),some (td (dU s))]=_;rw[eB,cA,eB,vR,Sb];rfl
 .show txt [some (tn s)]=_;rw[eB,vR,Sb];rfl
theorem km(k:Nat)(x:Ex):(opS k x).length≤(bj x).length+2:=by
 unfold opS;split
 .simp only[R5,R0,R7];omega
 .omega
theorem gh{s:ByteArray}(h:bt s=true):s.data.toList.length≤16:=by
 simp only[bt,RS,decide_eq_true_eq]at h;have:=h.1.2;rw[Lib.size_eq]at this;exact this
theorem nr(u:Nat)(h:u≤65535):(Lib.decDigits u).length≤5:=by
 have H:∀(k u:Nat),u<10^(k+1)->(Lib.decDigits u).length≤k+1:=by
  intro k
  induction k with
  | zero=>intro u h;rw[Lib.decDigits,dif_pos (by simpa using h)];simp
  | succ k ih=>
   intro u h;rw[Lib.decDigits];split
   .simp
   .have:=ih (u/10) (by rw[Nat.pow_succ]at h;omega);rw[R0,List.length_singleton];omega
 exact H 4 u (by omega)
theorem Ig:∀b,b∈cf->b.1.data.toList.length≤2:=by decide +kernel
theorem xI:∀l:List Ex,(∀a,a∈l->(bj a).length+20≤64*aT a)->(gf l).length+10*l.length≤64*ba l
 | [],_=>by simp[gf,ba]
 | [a],h=>by have:=h a (by simp);simp only[gf,ba,R7,R5];omega
 | [a,b],h=>by
  have h1:=h a (by simp);have h2:=h b (by simp);simp only[gf,ba,R7,R5,R0];omega
 | a::b::c::r,h=>by
  have h1:=h a (by simp);have h2:=h b (by simp);have h3:=xI (c::r) fun x hx=>h x (by simp only[Se]at hx ⊢;exact .inr (.inr hx));simp only[gf,ba,R7,R5,R0]at h3 ⊢;omega
theorem xb(e:Ex):dF e=0->(bj e).length+20≤64*aT e:=by
 induction e using Ex.ind with
 | h o n s l ih=>
 intro he;have hs:=KE he;generalize hE:Ex.mk o n s l=E at hs;cases hs with
 | const n h0 h1=>
  have:=nr n.toNat (by omega);rw[qR];simp only[aT,ba];omega
 | var s h=>
  cases hE;rw[wV];unfold fO at h;rw[RU]at h;simp only[aT,ba];split
  .rename_i hel;obtain⟨g1,g2,g3,g4⟩:=lS hel;have h1:=gh g1;have h2:=nr (dU s).toNat (by omega);simp only[R0,R5];omega
  .rename_i hel;have h1:=gh (h.resolve_left hel);omega
 | elem s x h hx=>
  cases hE;have h1:=ih x (by simp) hx;have h2:=gh h;rw[tE];simp only[aT,ba,R0,R5,R7];omega
 | pre o x h hx=>
  cases hE;have h1:=ih x (by simp) hx;have h2:=km 13 x;have h3:(iJ o).length≤1:=by rcases h with rfl|rfl|rfl<;>decide
  rw[v8 h];simp only[aT,ba,R0];omega
 | bin o m k x y h hx hy=>
  cases hE;have h1:=ih x (by simp) hx;have h2:=ih y (by simp) hy;have h3:=Ig _ (jS h);have h4:=km (if k=2 then 3 else k) x;have h5:=km (if k=2 then 2 else k+1) y;rw[v7 h];simp only[aT,ba,R0,R5]at h3 ⊢;omega
 | ite x y z hx hy hz=>
  cases hE;have h1:=ih x (by simp) hx;have h2:=ih y (by simp) hy;have h3:=ih z (by simp) hz;have h4:=km 2 x;have h5:=km 1 y;have h6:=km 1 z;rw[BH];simp only[aT,ba,R0,R5,R7];omega
 | inside x l hx hl hev hne h32=>
  cases hE;have h1:=ih x (by simp) hx;have h2:=xI l fun a ha=>ih a (by simp[ha]) (hl a ha);have h4:=km 9 x;rw[pQ];simp only[aT,ba,R0,R5,R7];omega
 | sum s h=>
  cases hE;have h2:=gh h;rw[xj];simp only[aT,ba,R0,R5,R7];omega
 | ones x hx=>
  cases hE;have h1:=ih x (by simp) hx;rw[uv];simp only[aT,ba,R0,R5,R7];omega
theorem lc{e:Ex}(h:aH e=0):dF e=0:=by
 unfold aH at h;split at h
 .cases h
 .exact h
def tc(n:Int):Bs:=Lib.itoa n
def mt(sep:Bs):List Bs->Bs
 | []=>[]
 | [a]=>a
 | a::b::r=>a++(sep++mt sep (b::r))
def rV(s:ByteArray):Bs:=s.data.toList
def lvT(o:Int):Int:=if o=4 then 1 else if o=5 then 2 else if o=2 then 3 else if o=7 then 4 else if o=3 then 5 else 6
def atS(k:Int)(x:Int×Bs):Bs:=if lvT x.1<k then 40::(x.2++[41])else x.2
def jt(lo hi:Int):Bs:=if lo=hi then tc lo else tc lo++58::tc hi
def sF(lo hi:Int):Bs:=if lo=hi then jt lo hi else 91::(jt lo hi++[93])
def dQ(o lo hi:Int)(e:Ex)(n:ByteArray)(xs:List (Int×Bs)):Bs:=
 if o=4 then mt [32,111,114,32] (xs.map (atS 2))
 else if o=5 then mt [32,97,110,100,32] (xs.map (atS 3))
 else if o=2 then atS 3 (xs.getD 0 (1,[]))++32::35::35::(sF lo hi++32::atS 4 (xs.getD 1 (1,[])))
 else if o=7 then 104::111::108::100::32::123::(bj e++125::32::105::110::32::atS 4 (xs.getD 0 (1,[])))
 else if o=3 then atS 5 (xs.getD 0 (1,[]))++32::91::42::(jt lo hi++[93])
 else if o=6 then 40::((xs.getD 0 (1,[])).2++44::32::(rV n++32::61::32::(bj e++[41])))
 else 123::(bj e++[125])
mutual
def d6:Ts->Bs
 | .mk o lo hi e n l=>dQ o lo hi e n (Bf l)
def Bf:List Ts->List (Int×Bs)
 | []=>[]
 | s::r=>(s.op,d6 s)::Bf r
end
theorem EI(l:List Ts):Bf l=l.map fun s=>(s.op,d6 s):=by
 induction l with
 | nil=>rfl
 | cons a r ih=>simp only[Bf,ih,Sa]
theorem vD(s:Ts):d6 s=dQ s.op s.lo s.hi s.ex s.name (s.args.map fun a=>(a.op,d6 a)):=by
 cases s;simp only[d6,EI,Ts.op,Ts.lo,Ts.hi,Ts.ex,Ts.name,Ts.args]
def gM(k:Int)(s:Ts):Bs:=atS k (s.op,d6 s)
theorem o9(k:Int)(l:List Ts):(l.map fun a=>(a.op,d6 a)).map (atS k)=l.map (gM k):=by rw[Si];rfl
def OkT(s:Ts):Prop:=∃b,ed s b=0
theorem cR{s:Ts}(h:cy s=0):OkT s:=by
 unfold cy at h;split at h
 .omega
 .exact⟨_,h⟩
theorem xK{l:List Ts}{b:Bool}(h:iG l b=0):∀a,a∈l->ed a b=0:=by
 induction l with
 | nil=>intro a ha;cases ha
 | cons x r ih=>
  rw[iG]at h;split at h
  .rename_i h0;intro a ha;rcases List.mem_cons.1 ha with rfl|ha
   .exact h0
   .exact ih h a ha
  .rename_i hn;exact absurd h hn
theorem OkT.node{s:Ts}(h:OkT s):∃b,fQ s b=0:=by
 obtain⟨b,h⟩:=h;rw[lM]at h;split at h
 .rename_i h0;exact⟨b,h0⟩
 .exact⟨b,h⟩
theorem OkT.arg{s a:Ts}(h:OkT s)(ha:a∈s.args):OkT a:=by
 obtain⟨b,h⟩:=h;rw[lM]at h;split at h
 .exact⟨_,xK h a ha⟩
 .rename_i hn;exact absurd h hn
structure NdT(s:Ts):Prop where
 sh:(s.op=1/\s.args=[]/\s.lo=0/\s.hi=0)\/(s.op=2/\(∃a b,s.args=[a,b])/\0≤s.lo/\s.lo≤s.hi/\s.hi≤16)\/(s.op=3/\(∃a,s.args=[a])/\1≤s.lo/\s.lo≤s.hi/\s.hi≤16)\/
  ((s.op=4\/s.op=5)/\2≤s.args.length/\s.args.length≤8/\s.lo=0/\s.hi=0)\/((s.op=6\/s.op=7)/\(∃a,s.args=[a])/\s.lo=0/\s.hi=0)
 ex:s.op=1\/s.op=6\/s.op=7->aH s.ex=0
 zx:¬(s.op=1\/s.op=6\/s.op=7)->s.ex=.mk 0 0 ⟨#[]⟩ []
 nm:s.op=6->bt s.name=true
 zn:s.op≠6->s.name=⟨#[]⟩
theorem BQ{α:Type}{l:List α}(h:l.length=1):∃a,l=[a]:=List.length_eq_one_iff.1 h
theorem Kg{α:Type}{l:List α}(h:l.length=2):∃a b,l=[a,b]:=by
 match l,h with
 | [a,b],_=>exact⟨a,b,rfl⟩
theorem HT{e:Ex}(h:ib e=true):e=.mk 0 0 ⟨#[]⟩ []:=by
 unfold ib at h;simp only[RS,decide_eq_true_eq]at h;cases e with
 | mk o n m l=>
  obtain⟨h1,h2,h3,h4⟩:=h;simp only[Ex.op,Ex.num,Ex.name,Ex.args]at h1 h2 h3 h4;rw[h1,h2,h3,R8 h4]
theorem OkT.nd{s:Ts}(h:OkT s):NdT s:=by
 obtain⟨b,h⟩:=h.node;unfold fQ at h;by_cases h1:(!gj s||((!cK s.op && !ib s.ex)||(decide (s.op≠6)&&decide (s.name≠⟨#[]⟩))))=true
 .rw[if_pos h1]at h;omega
 rw[if_neg h1]at h;by_cases h2:(decide (s.op=6) && !bt s.name)=true
 .rw[if_pos h2]at h;omega
 rw[if_neg h2]at h;by_cases h3:cK s.op=true/\aH s.ex≠0
 .rw[if_pos h3]at h;exact absurd h h3.2
 simp only[RU,RS,RX,decide_eq_true_eq,not_or,not_and,Bool.not_eq_false]at h1 h2;obtain⟨s1,s2,s3⟩:=h1;have wr:cK s.op=true↔(s.op=1\/s.op=6\/s.op=7):=by unfold cK;simp[RU]
 refine⟨?_,fun g=>?_,fun g=>?_,fun g=>?_,fun g=>?_⟩
 .unfold gj el jp at s1;split at s1
  .rename_i o1;simp only[RS,decide_eq_true_eq]at s1;exact .inl ⟨o1,R8 s1.1,s1.2.1,s1.2.2⟩
  split at s1
  .rename_i o1;simp only[RS,decide_eq_true_eq]at s1;exact .inr (.inl ⟨o1,Kg s1.1,s1.2.1,s1.2.2.1,s1.2.2.2⟩)
  split at s1
  .rename_i o1;simp only[RS,decide_eq_true_eq]at s1;exact .inr (.inr (.inl ⟨o1,BQ s1.1,s1.2.1,s1.2.2.1,s1.2.2.2⟩))
  split at s1
  .rename_i o1;simp only[RS,decide_eq_true_eq]at s1;exact .inr (.inr (.inr (.inl ⟨o1,s1.1.1,s1.1.2,s1.2.1,s1.2.2⟩)))
  split at s1
  .rename_i o1;simp only[RS,decide_eq_true_eq]at s1;exact .inr (.inr (.inr (.inr ⟨o1,BQ s1.1,s1.2.1,s1.2.2⟩)))
  .cases s1
 .apply RY;intro hv;exact h3 ⟨wr.2 g,hv⟩
 .have:cK s.op=false:=by
   cases hw:cK s.op with
   | false=>rfl
   | true=>exact absurd (wr.1 hw) g
  exact HT (s2 this)
 .exact h2 g
 .apply RY;intro hv;exact s3 g hv
theorem jR{n:Int}(h0:0≤n)(h1:n≤16):(tc n).length≤2:=by
 have:∀k:Nat,k≤16->(tc (k:Int)).length≤2:=by decide +kernel
 obtain⟨k,rfl⟩:=RZ h0;exact this k (by omega)
theorem ow(k:Int)(x:Int×Bs):(atS k x).length≤x.2.length+2:=by
 unfold atS;split
 .simp
 .omega
theorem sx{lo hi:Int}(h0:0≤lo)(h1:lo≤hi)(h2:hi≤16):(jt lo hi).length≤5/\(sF lo hi).length≤7:=by
 have a:=jR h0 (by omega);have b:=jR (show 0≤hi by omega) h2
 have c:(jt lo hi).length≤5:=by
  unfold jt;split
  .omega
  .simp;omega
 refine⟨c,?_⟩;unfold sF;split
 .omega
 .simp;omega
theorem qi(sep:Bs)(k:Int)(c:Nat)(hs:sep.length≤5):∀l:List Ts,(∀a,a∈l->(d6 a).length+20≤80*bd a)->(mt sep (l.map (gM k))).length+13*l.length≤80*cj l
 | [],_=>by simp[mt,cj]
 | [a],h=>by
  have h1:=h a (by simp);have h2:=ow k (a.op,d6 a);simp only[Sa,Sf,mt,cj,R5,R7];unfold gM;simp only at h2;omega
 | a::b::r,h=>by
  have h1:=h a (by simp);have h2:=ow k (a.op,d6 a);have h3:=qi sep k c hs (b::r) fun x hx=>h x (by simp only[Se]at hx ⊢;exact .inr hx);simp only[Sa,mt,cj,R5,R0]at h3 ⊢;unfold gM at h3 ⊢;simp only at h2;omega
theorem lG(s:Ts):OkT s->(d6 s).length+20≤80*bd s:=by
 induction s using Ts.ind with
 | h s ih=>
 intro hs;have hn:=hs.nd;have hb:=gm s;rw[vD,hb];have harg:=fun a ha=>ih a ha (hs.arg ha);have htx:s.op=1\/s.op=6\/s.op=7->(bj s.ex).length+20≤64*aT s.ex:=fun g=>xb _ (lc (hn.ex g));have hnm:s.op=6->(rV s.name).length≤16:=fun g=>gh (hn.nm g);have one:∀a,s.args=[a]->cj s.args=bd a/\(d6 a).length+20≤80*bd a:=fun a e=>⟨by rw[e];simp[cj],harg a (by rw[e];simp)⟩
 rcases hn.sh with⟨o,h⟩|⟨o,⟨a,b,h⟩,h0,h1,h2⟩|⟨o,⟨a,h⟩,h0,h1,h2⟩|⟨o,h0,h1,h2⟩|⟨o,⟨a,h⟩,h0,h1⟩
 .have:=htx (.inl o);unfold dQ;rw[o];simp[h.1,cj];omega
 .have e1:=harg a (by rw[h];simp);have e2:=harg b (by rw[h];simp);have e3:cj s.args=bd a+bd b:=by rw[h];simp[cj]
  have e4:=(sx h0 h1 h2).2;have e5:=ow 3 (a.op,d6 a);have e6:=ow 4 (b.op,d6 b);unfold dQ;rw[o,h]at *;simp at e5 e6 ⊢;omega
 .obtain⟨e0,e1⟩:=one a h;have e4:=(sx (show 0≤s.lo by omega) h1 h2).1;have e5:=ow 5 (a.op,d6 a);unfold dQ;rw[o,h]at *;simp at e5 ⊢;omega
 .unfold dQ;rcases o with o|o
  .rw[o,if_pos rfl,o9];have:=qi [32,111,114,32] 2 0 (by decide) s.args harg;omega
  .rw[o,if_neg (by decide),if_pos rfl,o9];have:=qi [32,97,110,100,32] 3 0 (by decide) s.args harg;omega
 .obtain⟨e0,e1⟩:=one a h;rcases o with o|o
  .have:=htx (.inr (.inl o));have:=hnm o;unfold dQ;rw[o,h]at *;simp;omega
  .have:=htx (.inr (.inr o));have e5:=ow 4 (a.op,d6 a);unfold dQ;rw[o,h]at *;simp at e5 ⊢;omega
def rv(s:Ts):Bs:=if cy s=0 then d6 s else[]
def eQ(p:Pr):Bs:=[112,114,111,112,101,114,116,121,32]++(rV p.name++(58::32::((if p.plain=true then[112,108,97,105,110,32]else d6 p.cond++(if p.over=true then[32,124,45,62,32]else[32,124,61,62,32]))++(d6 p.then_++[59]))))
def xd(p:Pr):Bs:=if cm p=0 then eQ p else[]
structure PrV(p:Pr):Prop where
 nm:bt p.name=true
 pl:p.plain=true->p.over=false/\p.cond=zT
 co:p.plain=false->cy p.cond=0
 th:cy p.then_=0
theorem oq{p:Pr}(h:cm p=0):PrV p:=by
 unfold cm at h;by_cases h1:bt p.name=false
 .rw[if_pos h1]at h;omega
 rw[if_neg h1]at h;by_cases h2:p.plain=true/\(p.over=true\/fJ p.cond=false)
 .rw[if_pos h2]at h;omega
 rw[if_neg h2]at h;by_cases h3:p.plain=false/\cy p.cond≠0
 .rw[if_pos h3]at h;exact absurd h h3.2
 rw[if_neg h3]at h;refine⟨by cases hn:bt p.name<;>simp_all,fun g=>⟨?_,?_⟩,fun g=>?_,h⟩
 .cases ho:p.over with
  | false=>rfl
  | true=>exact absurd ⟨g,.inl ho⟩ h2
 .have he:fJ p.cond=true:=by
   cases hh:fJ p.cond with
   | true=>rfl
   | false=>exact absurd ⟨g,.inr hh⟩ h2
  rw[<-qQ]at he;exact(j0 _ _).1 he
 .apply RY;intro hv;exact h3 ⟨g,hv⟩
inductive QR(α:Type) where
 | out
 | late
 | bad (l e:Int)
 | ok (s:α) (r:List Tok)
def QR.bind{α β:Type}(x:QR α)(f:α->List Tok->QR β):QR β:=match x with
 | .out=>.out
 | .late=>.late
 | .bad l e=>.bad l e
 | .ok s r=>f s r
def zEx:Ex:=.mk 0 0 ⟨#[]⟩ []
def orW:ByteArray:=⟨#[111,114]⟩
def kr:ByteArray:=⟨#[97,110,100]⟩
def iB:ByteArray:=⟨#[104,111,108,100]⟩
def inW:ByteArray:=⟨#[105,110]⟩
def rW:ByteArray:=⟨#[112,114,111,112,101,114,116,121]⟩
def jh:ByteArray:=⟨#[112,108,97,105,110]⟩
section
variable {α : Type} (N : Int)
def kb:List Tok->QR α
 | []=>.bad N 6
 | t::_=>.bad t.line 5
def cz(m:ByteArray)(r:List Tok)(f:List Tok->QR α):QR α:=match acc m r with
 | some r1=>f r1
 | none=>kb N r
def lB(r:List Tok)(f:Int->List Tok->QR α):QR α:=match ch r with
 | some (n,r1)=>f n r1
 | none=>kb N r
def iy(r:List Tok)(f:ByteArray->List Tok->QR α):QR α:=match bA r with
 | some (s,r1)=>f s r1
 | none=>kb N r
def II(c:Int)(r:List Tok):QR α:=if c=6 then .bad N 6 else match r with
 | []=>.bad N c
 | t::_=>.bad t.line c
def i8(r:List Tok)(f:Ex->List Tok->QR α):QR α:=match par .W r with
 | .out=>.out
 | .bad c r1=>II N c r1
 | .ok e r1=>if aH e=0 then f e r1 else .late
end
inductive QK where
 | S
 | Sp (l:List Ts)
 | A
 | Ap (l:List Ts)
 | D
 | Dp (s:Ts)
 | H
 | R
 | Rp (s:Ts)
 | U
def nT(o lo hi:Int)(l:List Ts):Ts:=.mk o lo hi zEx ⟨#[]⟩ l
def mr(o:Int)(l:List Ts):Ts:=match l with
 | [s]=>s
 | l=>nT o 0 0 l
def bz(N:Int)(rec:QK->List Tok->QR Ts):QK->List Tok->QR Ts
 | .S,r=>(rec .A r).bind fun s r1=>rec (.Sp [s]) r1
 | .Sp l,r=>match acc orW r with
  | some r1=>(rec .A r1).bind fun s r2=>rec (.Sp (l++[s])) r2
  | none=>.ok (mr 4 l) r
 | .A,r=>(rec .D r).bind fun s r1=>rec (.Ap [s]) r1
 | .Ap l,r=>match acc kr r with
  | some r1=>(rec .D r1).bind fun s r2=>rec (.Ap (l++[s])) r2
  | none=>.ok (mr 5 l) r
 | .D,r=>(rec .H r).bind fun s r1=>rec (.Dp s) r1
 | .Dp s,r=>match acc (aE 35 35) r with
  | none=>.ok s r
  | some r1=>match acc (aa 91) r1 with
   | some r2=>lB N r2 fun lo r3=>cz N (aa 58) r3 fun r4=>lB N r4 fun hi r5=>cz N (aa 93) r5 fun r6=>(rec .H r6).bind fun t r7=>rec (.Dp (nT 2 lo hi [s,t])) r7
   | none=>lB N r1 fun lo r2=>(rec .H r2).bind fun t r3=>rec (.Dp (nT 2 lo lo [s,t])) r3
 | .H,r=>match acc iB r with
  | none=>rec .R r
  | some r1=>cz N (aa 123) r1 fun r2=>i8 N r2 fun e r3=>cz N (aa 125) r3 fun r4=>cz N inW r4 fun r5=>(rec .H r5).bind fun s r6=>.ok (.mk 7 0 0 e ⟨#[]⟩ [s]) r6
 | .R,r=>(rec .U r).bind fun s r1=>rec (.Rp s) r1
 | .Rp s,r=>match acc (aa 91) r with
  | none=>.ok s r
  | some r1=>cz N (aa 42) r1 fun r2=>lB N r2 fun lo r3=>match acc (aa 58) r3 with
   | some r4=>lB N r4 fun hi r5=>cz N (aa 93) r5 fun r6=>rec (.Rp (nT 3 lo hi [s])) r6
   | none=>cz N (aa 93) r3 fun r4=>rec (.Rp (nT 3 lo lo [s])) r4
 | .U,r=>match acc (aa 123) r with
  | some r1=>i8 N r1 fun e r2=>cz N (aa 125) r2 fun r3=>.ok (.mk 1 0 0 e ⟨#[]⟩ []) r3
  | none=>cz N (aa 40) r fun r1=>(rec .S r1).bind fun s r2=>match acc (aa 44) r2 with
   | some r3=>iy N r3 fun n r4=>cz N (aa 61) r4 fun r5=>i8 N r5 fun e r6=>cz N (aa 41) r6 fun r7=>.ok (.mk 6 0 0 e n [s]) r7
   | none=>cz N (aa 41) r2 fun r3=>.ok s r3
def mw(N:Int):Nat->QK->List Tok->QR Ts
 | 0,_,_=>.out
 | n+1,k,r=>bz N (mw N n) k r
def QK.cost:QK->Nat
 | .S=>12 | .Sp _=>1 | .A=>10 | .Ap _=>1 | .D=>8 | .Dp _=>1 | .H=>6 | .R=>4 | .Rp _=>1 | .U=>2
def dw(k:QK)(r:List Tok):Nat:=40*r.length+k.cost
def dm(ts:List Tok):Int:=match ts.getLast? with|some t=>t.line|none=>1
section
variable {β : Type} {L1 L2 : Int}
structure Rt(L1:Int)(y:QR β)(L2:Int)(s:β)(r:List Tok):Prop where
 z:L2=0->L1=0/\y=.ok s r
 nz:L2≠0->L1≠0\/y=.late
end
end Go.Proofs.YthekkgfmagliiaaGreatDoor
