import Derived.Test.YthekkgfmagliiaaGreatDoorQt
set_option linter.unusedVariables false
set_option linter.unusedSimpArgs false
set_option linter.unusedSectionVars false
namespace Go.Proofs.YthekkgfmagliiaaGreatDoor
open Go.RowKit
theorem zY{c:UInt8}{q:Bs}(h:inn c=false∧c≠61∧c≠62):Hq (c::q):=by
 intro x hx;simp only[List.head?_cons,Option.some.injEq]at hx;subst hx;exact h
theorem sy{c x:UInt8}{q:Bs}(hb:eH [c,x]=1)(h:cK (tm (aj c))=true∧eo c.toNat=false∧d6 c.toNat=false∧kj c=false∧c≠47):Fine (tm (aj c)) (x::q):=by
 obtain⟨h3,h4,h5,h6,h7⟩:=h;have hb2:eH (c::x::q)=1:=by rw[j7];exact hb
 refine⟨h3,by simp[tm,aj],?_,cU h6 h7⟩;show dA (c::x::q)=.tok 4 0 1;simp only[dA,h4,h5,hb2];rfl
theorem F1{c d:UInt8}{q:Bs}(hb:eH [c,d]=2)(h:cK (tm (aO c d))=true∧eo c.toNat=false∧d6 c.toNat=false∧kj c=false∧c≠47):Fine (tm (aO c d)) q:=by
 obtain⟨h3,h4,h5,h6,h7⟩:=h;have hb2:eH (c::d::q)=2:=by rw[j7];exact hb
 refine⟨h3,by simp[tm,aO],?_,cU h6 h7⟩;show dA (c::d::q)=.tok 4 0 2;simp only[dA,h4,h5,hb2];rfl
theorem FC(n:Int)(X:Pc)(q:Bs):∃(x:UInt8) (r:Bs),txt (some (td n)::X)++q=x::r∧d6 x.toNat=true:=by
 obtain⟨c,r,h1,-,-⟩:=pK n.toNat;have hd:=nB n.toNat c (by rw[h1];simp);refine⟨c,r++txt X++q,?_,hd⟩;simp only[txt,td,ta,h1];simp
theorem CM:∀c,c∈[(42:UInt8),58]→∀n:Nat,n<256→d6 n=true→eH [c,UInt8.ofNat n]=1:=by decide +kernel
theorem lm{c:UInt8}(hc:c∈[(42:UInt8),58])(n:Int)(X:Pc)(q:Bs):Fine (tm (aj c)) (txt (some (td n)::X)++q):=by
 obtain⟨x,r,h1,h2⟩:=FC n X q;rw[h1];have hb:=CM c hc x.toNat x.toNat_lt h2;rw[UInt8.ofNat_toNat]at hb;exact sy hb ((by decide +kernel:∀c,c∈[(42:UInt8),58]→cK (tm (aj c))=true∧eo c.toNat=false∧d6 c.toNat=false∧kj c=false∧c≠47) c hc)
theorem kf{n:Int}(h0:0≤n)(h1:n≤16){X:Pc}{q:Bs}(hq:Hq (txt X++q))(hX:gZ X q):gZ (some (td n)::X) q:=eG (ln h0 (by omega)) (xV _) hq hX
theorem BL(q:Bs):Fine (tm (aO 35 35)) q:=F1 (by decide +kernel) (by decide +kernel)
theorem oZ(k:Int){o:Int}{X:Pc}(hX:GT X):GT (atP k (o,X)):=by
 unfold atP;simp only;split
 ·refine⟨fun q hq=>bA (by decide) ?_ (bG _ _ q (hX.g _ (bW (by decide))) (bA (by decide) ?_ trivial)),lz (by decide) _⟩
  ·rw[bD,List.append_assoc];exact hX.h.q _
  ·exact hq.k
 ·exact hX
theorem rF{w:ByteArray}(hw:cK (tw w)=true):∀{l:List Pc},l≠[]→(∀X,X∈l→GT X)→GT (pQ w l)
 | [],h,_=>absurd rfl h
 | [a],_,h=>h a (by simp)
 | a::b::r,_,h=>by
  have ha:=h a (by simp);have ih:=rF hw (l:=b::r) (by simp) fun X hX=>h X (by simp only[List.mem_cons]at hX ⊢;exact .inr hX);exact⟨fun q hq=>bG _ _ q (ha.g _ (bW (by decide))) (bH hw (ih.g q hq)),ha.h.app _⟩
theorem vW{lo hi:Int}(h0:0≤lo)(h1:lo≤hi)(h2:hi≤16){q:Bs}(hq:Hq q):gZ (lL lo hi) q:=by
 unfold lL;split
 ·exact kf h0 (by omega) hq trivial
 ·exact kf h0 (by omega) (zY (by decide)) ⟨lm (by decide) _ _ _,kf (by omega) h2 hq trivial⟩
theorem t7{lo hi:Int}(h0:0≤lo)(h1:lo≤hi)(h2:hi≤16){q:Bs}(hq:Hq q):gZ (jn lo hi) q:=by
 unfold jn;split
 ·exact kf h0 (by omega) hq trivial
 ·refine bA (by decide) ((gX (ln h0 (by omega)) (xV _) _).q _) ?_;exact kf h0 (by omega) (zY (by decide)) ⟨lm (by decide) _ _ _,kf (by omega) h2 (bW (by decide)) (bA (by decide) hq.k trivial)⟩
theorem gtE{e:Ex}(h:bd e=0):GT (pcE e):=Ht e (ji h)
theorem kqE{e:Ex}(h:bd e=0)(Y:Pc)(q:Bs):Kq (txt (pcE e++Y)++q):=((gtE h).h.app Y).q q
theorem wz(s:Ts):OkT s→GT (pcS s):=by
 induction s using Ts.ind with
 | h s ih=>
 intro hs;have hn:=hs.nd;have harg:=fun a ha=>ih a ha (hs.arg ha);rw[wy];rcases hn.sh with⟨o,h⟩|⟨o,⟨a,b,h⟩,h0,h1,h2⟩|⟨o,⟨a,h⟩,h0,h1,h2⟩|⟨o,h0,h1,h2⟩|⟨o,⟨a,h⟩,h0,h1⟩
 ·have he:=hn.ex (.inl o);have hN:cJ s.op s.lo s.hi s.ex s.name (s.args.map fun a=>(a.op,pcS a))=some (tm (aj 123))::(pcE s.ex++[some (tm (aj 125))]):=by unfold cJ;rw[o];simp
  rw[hN];exact⟨fun q hq=>bA (by decide) (kqE he _ _) (bG _ _ q ((gtE he).g _ (zY (by decide))) (bA (by decide) hq.k trivial)),lz (by decide) _⟩
 ·have ea:=oZ 3 (o:=a.op) (harg a (by rw[h];simp));have eb:=oZ 4 (o:=b.op) (harg b (by rw[h];simp));have hN:cJ s.op s.lo s.hi s.ex s.name (s.args.map fun a=>(a.op,pcS a))=atP 3 (a.op,pcS a)++none::some (tm (aO 35 35))::(jn s.lo s.hi++none::atP 4 (b.op,pcS b)):=by unfold cJ;rw[o,h];simp
  rw[hN];exact⟨fun q hq=>bG _ _ q (ea.g _ (bW (by decide))) ⟨BL _,bG _ _ q (t7 h0 h1 h2 (bW (by decide))) (eb.g q hq)⟩,ea.h.app _⟩
 ·have ea:=oZ 5 (o:=a.op) (harg a (by rw[h];simp));have hN:cJ s.op s.lo s.hi s.ex s.name (s.args.map fun a=>(a.op,pcS a))=atP 5 (a.op,pcS a)++none::some (tm (aj 91))::some (tm (aj 42))::(lL s.lo s.hi++[some (tm (aj 93))]):=by unfold cJ;rw[o,h];simp
  rw[hN];refine⟨fun q hq=>bG _ _ q (ea.g _ (bW (by decide))) (bA (c:=91) (by decide) ?_ ⟨?_,bG _ _ q (vW (by omega) h1 h2 (bW (by decide))) (bA (by decide) hq.k trivial)⟩),ea.h.app _⟩
  ·intro x hx;have:x=42:=by simpa[txt,tm,aj]using hx.symm
   subst this;decide
  ·unfold lL;split
   ·exact lm (by decide) _ _ _
   ·exact lm (by decide) _ _ _
 ·have hne:s.args≠[]:=by intro h;rw[h]at h0;simp at h0
  have hG:∀k:Int,∀X,X∈s.args.map (nQ k)→GT X:=fun k X hX=>by
   obtain⟨a,ha,rfl⟩:=List.mem_map.1 hX;exact oZ k (harg a ha)
  rcases o with o|o
  ·have hN:cJ s.op s.lo s.hi s.ex s.name (s.args.map fun a=>(a.op,pcS a))=pQ orW (s.args.map (nQ 2)):=by unfold cJ;rw[o,if_pos rfl,j5]
   rw[hN];exact rF (fg _ (by simp)) (by simpa using hne) (hG 2)
  ·have hN:cJ s.op s.lo s.hi s.ex s.name (s.args.map fun a=>(a.op,pcS a))=pQ jq (s.args.map (nQ 3)):=by unfold cJ;rw[o,if_neg (by decide),if_pos rfl,j5]
   rw[hN];exact rF (fg _ (by simp)) (by simpa using hne) (hG 3)
 ·have ga:=harg a (by rw[h];simp);rcases o with o|o
  ·have he:=hn.ex (.inr (.inl o));have hN:cJ s.op s.lo s.hi s.ex s.name (s.args.map fun a=>(a.op,pcS a))=some (tm (aj 40))::(pcS a++some (tm (aj 44))::none::some (tn s.name)::none::some (tm (aj 61))::none::(pcE s.ex++[some (tm (aj 41))])):=by unfold cJ;rw[o,h];simp
   rw[hN];refine⟨fun q hq=>bA (by decide) ((ga.h.app _).q _) (bG _ _ q (ga.g _ (bW (by decide))) (bH (bJ _ (by simp)) (bH (dN (hn.nm o)) (bH (eP _ (by simp)) (bG _ _ q ((gtE he).g _ (bW (by decide))) (bA (by decide) hq.k trivial)))))),lz (by decide) _⟩
  ·have he:=hn.ex (.inr (.inr o));have ea:=oZ 4 (o:=a.op) ga;have hN:cJ s.op s.lo s.hi s.ex s.name (s.args.map fun a=>(a.op,pcS a))=some (tw gO)::none::some (tm (aj 123))::(pcE s.ex++some (tm (aj 125))::none::some (tw inW)::none::atP 4 (a.op,pcS a)):=by unfold cJ;rw[o,h];simp
   rw[hN];refine⟨fun q hq=>bH (fg _ (by simp)) (bA (by decide) (kqE he _ _) (bG _ _ q ((gtE he).g _ (zY (by decide))) (bH (bJ _ (by simp)) (bH (fg _ (by simp)) (ea.g q hq))))),gX (fg _ (by simp)) (by decide) _⟩
theorem oR{X:Pc}(h:gZ X []):∃ts,qI (txt X)=.ok ts∧Sq ts (tks X):=by
 obtain⟨h1,h2⟩:=mu X 1 h;refine⟨_,by unfold qI;rw[h2];exact h1,?_⟩;unfold Sq;rw[List.map_map];exact List.map_congr_left fun _ _=>rfl
theorem uP{s:Ts}(h:OkT s):∃ts,qI (dK s)=.ok ts∧Sq ts (dI s):=by
 obtain⟨ts,h1,h2⟩:=oR ((wz s h).g [] Dl);rw[rJ s h]at h1;exact⟨ts,h1,h2⟩
theorem iP{N:Int}{s:Ts}(h:OkT s){r:List Tok}(hr:StopS 1 r):qp N .S (dI s++r)=.ok s r:=by
 have:=(Fi (N:=N) s h).at_ 1 (by omega) (by omega) r hr;rw[show tkS ((1:Nat):Int) s=dI s from Ka s]at this;exact this
theorem B7{r:List Tok}(h:Sq [] r):r=[]:=by
 have:=h.len;exact List.eq_nil_of_length_eq_zero (by simpa using this.symm)
theorem Sq.symm{a b:List Tok}(h:Sq a b):Sq b a:=Eq.symm h
theorem tl{N:Int}{s:Ts}{ts:List Tok}(h:OkT s)(ht:qI (dK s)=.ok ts):qp N .S ts=.ok s []:=by
 obtain⟨ts',h1,h2⟩:=uP h;rw[ht]at h1;cases h1;have h3:=iP (N:=N) h (rq 1);rw[List.append_nil]at h3;obtain⟨b,h4,h5⟩:=(te (N:=N) (N':=N) .S h2.symm).ok_left h3;rw[h4,B7 h5]
theorem FQ{s t:Ts}(hs:OkT s)(ht:OkT t)(h:dK s=dK t):s=t:=by
 obtain⟨ts,h1,h2⟩:=uP hs;have a:=tl (N:=1) hs h1;rw[h]at h1;have b:=tl (N:=1) ht h1;rw[a]at b;cases b;rfl
def xT(p:Pr):Pc:=if p.plain=true then some (tw kR)::none::pcS p.then_ else pcS p.cond++none::some (tm (aj 124))::some (tm (if p.over=true then aO 45 62 else aO 61 62))::none::pcS p.then_
def pcP(p:Pr):Pc:=some (tw uU)::none::some (tn p.name)::some (tm (aj 58))::none::(xT p++[some (tm (aj 59))])
theorem Ca{p:Pr}(h:PrV p):txt (pcP p)=mR p:=by
 have h1:=rJ _ (cE h.th);unfold pcP xT mR;cases hp:p.plain with
 | true=>simp[txt,bD,tw,tn,tm,aj,uU,kR,p9,h1]
 | false=>
  have h2:=rJ _ (cE (h.co hp));cases ho:p.over<;>simp[txt,bD,tw,tn,tm,aj,aO,uU,p9,h1,h2]
theorem A9{p:Pr}(h:PrV p):gZ (pcP p) []:=by
 have gt:=wz _ (cE h.th)
 have tail:gZ [some (tm (aj 59))] []:=by
  obtain⟨h1,h2,h3⟩:=od (t:=tm (aj 59)) (eP _ (by simp)) (q:=[]) (fun x hx=>by simp at hx);exact⟨⟨eP _ (by simp),h1,h2,h3⟩,trivial⟩
 have hq59:Hq (txt [some (tm (aj 59))]++[]):=zY (c:=59) (by decide);refine bH (fg _ (by simp)) (eG (dN h.nm) (i8 _) (zY (by decide)) (bH (bJ _ (by simp)) (bG _ _ _ ?_ tail)));unfold xT;cases hp:p.plain with
 | true=>exact bH (fg _ (by simp)) (gt.g _ hq59)
 | false=>
  have gc:=wz _ (cE (h.co hp));rw[if_neg (by decide)];cases ho:p.over with
  | true=>exact bG _ _ _ (gc.g _ (bW (by decide))) ⟨sy (x:=45) (by decide +kernel) (by decide +kernel),bH (eP _ (by simp)) (gt.g _ hq59)⟩
  | false=>exact bG _ _ _ (gc.g _ (bW (by decide))) ⟨sy (x:=61) (by decide +kernel) (by decide +kernel),bH (eP _ (by simp)) (gt.g _ hq59)⟩
def ID(p:Pr):List Tok:=tks (pcP p)
theorem Bu{s:Ts}(h:OkT s)(r:List Tok):acc kR (dI s++r)=none:=by
 cases hx:acc kR (dI s++r)with
 | none=>rfl
 | some q=>
  exfalso;have h1:=iP (N:=1) h (rq 1);obtain⟨t,e1,e2,e3,e4⟩:=sY hx;rw[List.append_nil]at h1
  have hne:dI s≠[]:=by
   intro e;have:=IV h1;rw[e]at this;simp[QK.eats]at this
  obtain⟨t',l,hl⟩:=List.exists_cons_of_ne_nil hne;rw[hl]at e1 h1;simp only[List.cons_append,List.cons.injEq]at e1;obtain⟨rfl,-⟩:=e1
  have hU:qp 1 .U (t'::l)=i7 1 (t'::l):=by
   rw[cI];simp only[bg];rw[bt (by rw[e4];decide +kernel)];simp only;unfold cx;rw[bt (by rw[e4];decide +kernel)]
  have hR:qp 1 .R (t'::l)=i7 1 (t'::l):=by rw[cI];simp only[bg,hU];rfl
  have hH:qp 1 .H (t'::l)=i7 1 (t'::l):=by
   rw[cI];simp only[bg];rw[bt (by rw[e4];decide +kernel)];exact hR
  have hD:qp 1 .D (t'::l)=i7 1 (t'::l):=by rw[cI];simp only[bg,hH];rfl
  have hA:qp 1 .A (t'::l)=i7 1 (t'::l):=by rw[cI];simp only[bg,hD];rfl
  have hS:qp 1 .S (t'::l)=i7 1 (t'::l):=by rw[cI];simp only[bg,hA];rfl
  rw[hS]at h1;cases h1
theorem vq{N:Int}{p:Pr}(h:PrV p)(r:List Tok):uz N (ID p++r)=.ok p r:=by
 have ht:=cE h.th;have hpS:∀r,qp N .S (dI p.then_++tm (aj 59)::r)=.ok p.then_ (tm (aj 59)::r):=fun r=>iP ht (j0 (by simp) 1 r);unfold uz ID pcP;simp only[tks,List.cons_append];rw[ym (fg _ (by simp)),xA h.nm,cz (bJ _ (by simp))];unfold xT;cases hp:p.plain with
 | true=>
  obtain⟨h1,h2⟩:=h.pl hp;simp only[if_true,tks,dc,List.cons_append,List.append_assoc,List.nil_append];rw[l8 (fg _ (by simp))];simp only;rw[show tks (pcS p.then_)=dI p.then_ from rfl,hpS];simp only[QR.bind];rw[cz (eP _ (by simp)),←hp,←h1,←h2]
 | false=>
  have hc:=cE (h.co hp);simp only[Bool.false_eq_true,if_false,tks,dc,List.cons_append,List.append_assoc,List.nil_append];rw[show tks (pcS p.then_)=dI p.then_ from rfl,show tks (pcS p.cond)=dI p.cond from rfl,Bu hc];simp only;rw[iP hc (j0 (m:=aj 124) (by simp) 1 _)];simp only[QR.bind];rw[cz (eP _ (by simp))];cases ho:p.over with
  | true=>
   simp only[if_true];rw[b5 (eP _ (by simp))];simp only;rw[hpS];simp only;rw[cz (eP _ (by simp)),←hp,←ho]
  | false=>
   simp only[Bool.false_eq_true,if_false];rw[bt (t:=tm (aO 61 62)) (m:=aO 45 62) (by decide +kernel)];simp only;rw[cz (eP _ (by simp)),hpS];simp only;rw[cz (eP _ (by simp)),show(⟨p.name,false,false,p.cond,p.then_⟩:Pr)=p by cases p;simp_all]
theorem qu{p:Pr}(h:PrV p):∃ts,qI (mR p)=.ok ts∧Sq ts (ID p):=by
 obtain⟨ts,h1,h2⟩:=oR (A9 h);rw[Ca h]at h1;exact⟨ts,h1,h2⟩
theorem qj{N:Int}{p:Pr}{ts:List Tok}(h:PrV p)(ht:qI (mR p)=.ok ts):uz N ts=.ok p []:=by
 obtain⟨ts',h1,h2⟩:=qu h;rw[ht]at h1;cases h1;have h3:=vq (N:=N) h [];rw[List.append_nil]at h3;obtain⟨b,h4,h5⟩:=(Fm (N:=N) (N':=N) h2.symm).ok_left h3;rw[h4,B7 h5]
theorem BF{p q:Pr}(hp:PrV p)(hq:PrV q)(h:mR p=mR q):p=q:=by
 obtain⟨ts,h1,h2⟩:=qu hp;have a:=qj (N:=1) hp h1;rw[h]at h1;have b:=qj (N:=1) hq h1;rw[a]at b;cases b;rfl
end Go.Proofs.YthekkgfmagliiaaGreatDoor
