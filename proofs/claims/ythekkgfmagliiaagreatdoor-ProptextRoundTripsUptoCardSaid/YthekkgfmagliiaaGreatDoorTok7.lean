import Derived.Scope
import Derived.Test.YthekkgfmagliiaaGreatDoorQt
set_option linter.unusedVariables false
set_option linter.unusedSimpArgs false
set_option linter.unusedSectionVars false
set_option maxRecDepth 1000000
set_option maxHeartbeats 2000000
open Bool renaming false_eq_true->RS,and_eq_false_iff->RU,eq_iff_iff->RW
open Int renaming cast_ofNat_Int->RX,natCast_zero->RY,lt_irrefl->RZ
open List renaming take_left->R0,takeWhile_prefix->R5,length_set->R6,cons_append->R7,takeWhile_cons_of_pos->R8,take_of_length_le->R9,getElem?_eq_getElem->Sa,length_cons->Sb,append_assoc->Sc,eq_nil_of_length_eq_zero->Sd,append_nil->Se,set_set->Sf,getElem_cons_zero->Si,getElem_cons_succ->Sj,set_getElem_self->Sk,count_le_length->Sl,length_drop->Sm,nil_append->Sn,length_nil->So,head?_cons->Sr
open Nat renaming le_refl->Ss,le_trans->Su
namespace Go.Proofs.YthekkgfmagliiaaGreatDoor
open Go.RowKit
open Nat renaming reduceLeDiff -> jA, reduceBEq -> jB, reduceLT -> jC, reduceEqDiff -> jD, reduceAdd -> jE, reduceSub -> jF, reduceMul -> jG
open V renaming copy -> jV, lend -> jW, lend1 -> jX, cells -> jY, boxable -> jZ
theorem Cv{c:UInt8}{q:Bs}(h:inn c=false/\c≠61/\c≠62):Hq (c::q):=by
 intro x hx;simp only[Sr,Option.some.injEq]at hx;subst hx;exact h
theorem vG{c x:UInt8}{q:Bs}(hb:cG [c,x]=1)(h:bC (tm (aa c))=true/\fj c.toNat=false/\cZ c.toNat=false/\j9 c=false/\c≠47):Fine (tm (aa c)) (x::q):=by
 obtain⟨h3,h4,h5,h6,h7⟩:=h;have hb2:cG (c::x::q)=1:=by rw[lU];exact hb
 refine⟨h3,by simp[tm,aa],?_,dO h6 h7⟩;show bY (c::x::q)=.tok 4 0 1;simp only[bY,h4,h5,hb2];rfl
theorem JU{c d:UInt8}{q:Bs}(hb:cG [c,d]=2)(h:bC (tm (aE c d))=true/\fj c.toNat=false/\cZ c.toNat=false/\j9 c=false/\c≠47):Fine (tm (aE c d)) q:=by
 obtain⟨h3,h4,h5,h6,h7⟩:=h;have hb2:cG (c::d::q)=2:=by rw[lU];exact hb
 refine⟨h3,by simp[tm,aE],?_,dO h6 h7⟩;show bY (c::d::q)=.tok 4 0 2;simp only[bY,h4,h5,hb2];rfl
theorem JD(n:Int)(X:Pc)(q:Bs):∃(x:UInt8) (r:Bs),txt (some (td n)::X)++q=x::r/\cZ x.toNat=true:=by
 obtain⟨c,r,h1,-,-⟩:=rQ n.toNat;have hd:=qh n.toNat c (by rw[h1];simp);refine⟨c,r++txt X++q,?_,hd⟩;simp only[txt,td,uT,h1];simp
theorem Gz:∀c,c∈[(42:UInt8),58]->∀n:Nat,n<256->cZ n=true->cG [c,UInt8.ofNat n]=1:=by decide +kernel
theorem nf{c:UInt8}(hc:c∈[(42:UInt8),58])(n:Int)(X:Pc)(q:Bs):Fine (tm (aa c)) (txt (some (td n)::X)++q):=by
 obtain⟨x,r,h1,h2⟩:=JD n X q;rw[h1];have hb:=Gz c hc x.toNat x.toNat_lt h2;rw[UInt8.ofNat_toNat]at hb;exact vG hb ((by decide +kernel:∀c,c∈[(42:UInt8),58]->bC (tm (aa c))=true/\fj c.toNat=false/\cZ c.toNat=false/\j9 c=false/\c≠47) c hc)
theorem mf{n:Int}(h0:0≤n)(h1:n≤16){X:Pc}{q:Bs}(hq:Hq (txt X++q))(hX:fz X q):fz (some (td n)::X) q:=fS (nR h0 (by omega)) (Bb _) hq hX
theorem Iv(q:Bs):Fine (tm (aE 35 35)) q:=JU (by decide +kernel) (by decide +kernel)
theorem rD(k:Int){o:Int}{X:Pc}(hX:GT X):GT (atP k (o,X)):=by
 unfold atP;simp only;split
 .refine⟨fun q hq=>bQ (by decide) ?_ (b7 _ _ q (hX.g _ (cw (by decide))) (bQ (by decide) ?_ trivial)),nu (by decide) _⟩
  .rw[bT,Sc];exact hX.h.q _
  .exact hq.k
 .exact hX
theorem uz{w:ByteArray}(hw:bC (tw w)=true):∀{l:List Pc},l≠[]->(∀X,X∈l->GT X)->GT (qZ w l)
 | [],h,_=>absurd rfl h
 | [a],_,h=>h a (by simp)
 | a::b::r,_,h=>by
  have ha:=h a (by simp);have ih:=uz hw (l:=b::r) (by simp) fun X hX=>h X (by simp only[List.mem_cons]at hX ⊢;exact .inr hX);exact⟨fun q hq=>b7 _ _ q (ha.g _ (cw (by decide))) (b6 hw (ih.g q hq)),ha.h.app _⟩
theorem AJ{lo hi:Int}(h0:0≤lo)(h1:lo≤hi)(h2:hi≤16){q:Bs}(hq:Hq q):fz (nw lo hi) q:=by
 unfold nw;split
 .exact mf h0 (by omega) hq trivial
 .exact mf h0 (by omega) (Cv (by decide)) ⟨nf (by decide) _ _ _,mf (by omega) h2 hq trivial⟩
theorem wK{lo hi:Int}(h0:0≤lo)(h1:lo≤hi)(h2:hi≤16){q:Bs}(hq:Hq q):fz (lC lo hi) q:=by
 unfold lC;split
 .exact mf h0 (by omega) hq trivial
 .refine bQ (by decide) ((jr (nR h0 (by omega)) (Bb _) _).q _) ?_;exact mf h0 (by omega) (Cv (by decide)) ⟨nf (by decide) _ _ _,mf (by omega) h2 (cw (by decide)) (bQ (by decide) hq.k trivial)⟩
theorem gtE{e:Ex}(h:aH e=0):GT (pcE e):=K2 e (lc h)
theorem kqE{e:Ex}(h:aH e=0)(Y:Pc)(q:Bs):Kq (txt (pcE e++Y)++q):=((gtE h).h.app Y).q q
theorem yK(s:Ts):OkT s->GT (pcS s):=by
 induction s using Ts.ind with
 | h s ih=>
 intro hs;have hn:=hs.nd;have harg:=fun a ha=>ih a ha (hs.arg ha);rw[AQ];rcases hn.sh with⟨o,h⟩|⟨o,⟨a,b,h⟩,h0,h1,h2⟩|⟨o,⟨a,h⟩,h0,h1,h2⟩|⟨o,h0,h1,h2⟩|⟨o,⟨a,h⟩,h0,h1⟩
 .have he:=hn.ex (.inl o);have hN:dy s.op s.lo s.hi s.ex s.name (s.args.map fun a=>(a.op,pcS a))=some (tm (aa 123))::(pcE s.ex++[some (tm (aa 125))]):=by unfold dy;rw[o];simp
  rw[hN];exact⟨fun q hq=>bQ (by decide) (kqE he _ _) (b7 _ _ q ((gtE he).g _ (Cv (by decide))) (bQ (by decide) hq.k trivial)),nu (by decide) _⟩
 .have ea:=rD 3 (o:=a.op) (harg a (by rw[h];simp));have eb:=rD 4 (o:=b.op) (harg b (by rw[h];simp));have hN:dy s.op s.lo s.hi s.ex s.name (s.args.map fun a=>(a.op,pcS a))=atP 3 (a.op,pcS a)++none::some (tm (aE 35 35))::(lC s.lo s.hi++none::atP 4 (b.op,pcS b)):=by unfold dy;rw[o,h];simp
  rw[hN];exact⟨fun q hq=>b7 _ _ q (ea.g _ (cw (by decide))) ⟨Iv _,b7 _ _ q (wK h0 h1 h2 (cw (by decide))) (eb.g q hq)⟩,ea.h.app _⟩
 .have ea:=rD 5 (o:=a.op) (harg a (by rw[h];simp));have hN:dy s.op s.lo s.hi s.ex s.name (s.args.map fun a=>(a.op,pcS a))=atP 5 (a.op,pcS a)++none::some (tm (aa 91))::some (tm (aa 42))::(nw s.lo s.hi++[some (tm (aa 93))]):=by unfold dy;rw[o,h];simp
  rw[hN];refine⟨fun q hq=>b7 _ _ q (ea.g _ (cw (by decide))) (bQ (c:=91) (by decide) ?_ ⟨?_,b7 _ _ q (AJ (by omega) h1 h2 (cw (by decide))) (bQ (by decide) hq.k trivial)⟩),ea.h.app _⟩
  .intro x hx;have:x=42:=by simpa[txt,tm,aa]using hx.symm
   subst this;decide
  .unfold nw;split
   .exact nf (by decide) _ _ _
   .exact nf (by decide) _ _ _
 .have hne:s.args≠[]:=by intro h;rw[h]at h0;simp at h0
  have hG:∀k:Int,∀X,X∈s.args.map (qW k)->GT X:=fun k X hX=>by
   obtain⟨a,ha,rfl⟩:=List.mem_map.1 hX;exact rD k (harg a ha)
  rcases o with o|o
  .have hN:dy s.op s.lo s.hi s.ex s.name (s.args.map fun a=>(a.op,pcS a))=qZ orW (s.args.map (qW 2)):=by unfold dy;rw[o,if_pos rfl,lY]
   rw[hN];exact uz (gC _ (by simp)) (by simpa using hne) (hG 2)
  .have hN:dy s.op s.lo s.hi s.ex s.name (s.args.map fun a=>(a.op,pcS a))=qZ kr (s.args.map (qW 3)):=by unfold dy;rw[o,if_neg (by decide),if_pos rfl,lY]
   rw[hN];exact uz (gC _ (by simp)) (by simpa using hne) (hG 3)
 .have ga:=harg a (by rw[h];simp);rcases o with o|o
  .have he:=hn.ex (.inr (.inl o));have hN:dy s.op s.lo s.hi s.ex s.name (s.args.map fun a=>(a.op,pcS a))=some (tm (aa 40))::(pcS a++some (tm (aa 44))::none::some (tn s.name)::none::some (tm (aa 61))::none::(pcE s.ex++[some (tm (aa 41))])):=by unfold dy;rw[o,h];simp
   rw[hN];refine⟨fun q hq=>bQ (by decide) ((ga.h.app _).q _) (b7 _ _ q (ga.g _ (cw (by decide))) (b6 (ca _ (by simp)) (b6 (eO (hn.nm o)) (b6 (fZ _ (by simp)) (b7 _ _ q ((gtE he).g _ (cw (by decide))) (bQ (by decide) hq.k trivial)))))),nu (by decide) _⟩
  .have he:=hn.ex (.inr (.inr o));have ea:=rD 4 (o:=a.op) ga;have hN:dy s.op s.lo s.hi s.ex s.name (s.args.map fun a=>(a.op,pcS a))=some (tw iB)::none::some (tm (aa 123))::(pcE s.ex++some (tm (aa 125))::none::some (tw inW)::none::atP 4 (a.op,pcS a)):=by unfold dy;rw[o,h];simp
   rw[hN];refine⟨fun q hq=>b6 (gC _ (by simp)) (bQ (by decide) (kqE he _ _) (b7 _ _ q ((gtE he).g _ (Cv (by decide))) (b6 (ca _ (by simp)) (b6 (gC _ (by simp)) (ea.g q hq))))),jr (gC _ (by simp)) (by decide) _⟩
theorem rP{X:Pc}(h:fz X []):∃ts,dP (txt X)=.ok ts/\Sq ts (tks X):=by
 obtain⟨h1,h2⟩:=mc X 1 h;refine⟨_,by unfold dP;rw[h2];exact h1,?_⟩;unfold Sq;rw[List.map_map];exact List.map_congr_left fun _ _=>rfl
theorem xu{s:Ts}(h:OkT s):∃ts,dP (d6 s)=.ok ts/\Sq ts (eF s):=by
 obtain⟨ts,h1,h2⟩:=rP ((yK s h).g [] G9);rw[vu s h]at h1;exact⟨ts,h1,h2⟩
theorem ku{N:Int}{s:Ts}(h:OkT s){r:List Tok}(hr:StopS 1 r):qp N .S (eF s++r)=.ok s r:=by
 have:=(Jd (N:=N) s h).at_ 1 (by omega) (by omega) r hr;rw[show tkS ((1:Nat):Int) s=eF s from Nv s]at this;exact this
theorem rC{r:List Tok}(h:Sq [] r):r=[]:=by
 have:=h.len;exact Sd (by simpa using this.symm)
theorem Sq.symm{a b:List Tok}(h:Sq a b):Sq b a:=Eq.symm h
theorem GI{N:Int}{s:Ts}{ts:List Tok}(h:OkT s)(ht:dP (d6 s)=.ok ts):qp N .S ts=.ok s []:=by
 obtain⟨ts',h1,h2⟩:=xu h;rw[ht]at h1;cases h1;have h3:=ku (N:=N) h (ug 1);rw[Se]at h3;obtain⟨b,h4,h5⟩:=(yf (N:=N) (N':=N) .S h2.symm).ok_left h3;rw[h4,rC h5]
def Bc(p:Pr):Pc:=if p.plain=true then some (tw jh)::none::pcS p.then_ else pcS p.cond++none::some (tm (aa 124))::some (tm (if p.over=true then aE 45 62 else aE 61 62))::none::pcS p.then_
def pcP(p:Pr):Pc:=some (tw rW)::none::some (tn p.name)::some (tm (aa 58))::none::(Bc p++[some (tm (aa 59))])
theorem xV{p:Pr}(h:PrV p):txt (pcP p)=eQ p:=by
 have h1:=vu _ (cR h.th);unfold pcP Bc eQ;cases hp:p.plain with
 | true=>simp[txt,bT,tw,tn,tm,aa,rW,jh,rV,h1]
 | false=>
  have h2:=vu _ (cR (h.co hp));cases ho:p.over<;>simp[txt,bT,tw,tn,tm,aa,aE,rW,rV,h1,h2]
theorem tI{p:Pr}(h:PrV p):fz (pcP p) []:=by
 have gt:=yK _ (cR h.th)
 have tail:fz [some (tm (aa 59))] []:=by
  obtain⟨h1,h2,h3⟩:=sd (t:=tm (aa 59)) (fZ _ (by simp)) (q:=[]) (fun x hx=>by simp at hx);exact⟨⟨fZ _ (by simp),h1,h2,h3⟩,trivial⟩
 have hq59:Hq (txt [some (tm (aa 59))]++[]):=Cv (c:=59) (by decide);refine b6 (gC _ (by simp)) (fS (eO h.nm) (kN _) (Cv (by decide)) (b6 (ca _ (by simp)) (b7 _ _ _ ?_ tail)));unfold Bc;cases hp:p.plain with
 | true=>exact b6 (gC _ (by simp)) (gt.g _ hq59)
 | false=>
  have gc:=yK _ (cR (h.co hp));rw[if_neg (by decide)];cases ho:p.over with
  | true=>exact b7 _ _ _ (gc.g _ (cw (by decide))) ⟨vG (x:=45) (by decide +kernel) (by decide +kernel),b6 (fZ _ (by simp)) (gt.g _ hq59)⟩
  | false=>exact b7 _ _ _ (gc.g _ (cw (by decide))) ⟨vG (x:=61) (by decide +kernel) (by decide +kernel),b6 (fZ _ (by simp)) (gt.g _ hq59)⟩
def vH(p:Pr):List Tok:=tks (pcP p)
theorem Da{s:Ts}(h:OkT s)(r:List Tok):acc jh (eF s++r)=none:=by
 cases hx:acc jh (eF s++r)with
 | none=>rfl
 | some q=>
  exfalso;have h1:=ku (N:=1) h (ug 1);obtain⟨t,e1,e2,e3,e4⟩:=xF hx;rw[Se]at h1
  have hne:eF s≠[]:=by
   intro e;have:=oW h1;rw[e]at this;simp[QK.eats]at this
  obtain⟨t',l,hl⟩:=List.exists_cons_of_ne_nil hne;rw[hl]at e1 h1;simp only[R7,List.cons.injEq]at e1;obtain⟨rfl,-⟩:=e1
  have hU:qp 1 .U (t'::l)=kb 1 (t'::l):=by
   rw[dh];simp only[bz];rw[bJ (by rw[e4];decide +kernel)];simp only;unfold cz;rw[bJ (by rw[e4];decide +kernel)]
  have hR:qp 1 .R (t'::l)=kb 1 (t'::l):=by rw[dh];simp only[bz,hU];rfl
  have hH:qp 1 .H (t'::l)=kb 1 (t'::l):=by
   rw[dh];simp only[bz];rw[bJ (by rw[e4];decide +kernel)];exact hR
  have hD:qp 1 .D (t'::l)=kb 1 (t'::l):=by rw[dh];simp only[bz,hH];rfl
  have hA:qp 1 .A (t'::l)=kb 1 (t'::l):=by rw[dh];simp only[bz,hD];rfl
  have hS:qp 1 .S (t'::l)=kb 1 (t'::l):=by rw[dh];simp only[bz,hA];rfl
  rw[hS]at h1;cases h1
theorem qB{N:Int}{p:Pr}(h:PrV p)(r:List Tok):i6 N (vH p++r)=.ok p r:=by
 have ht:=cR h.th;have hpS:∀r,qp N .S (eF p.then_++tm (aa 59)::r)=.ok p.then_ (tm (aa 59)::r):=fun r=>ku ht (lP (by simp) 1 r);unfold i6 vH pcP;simp only[tks,R7];rw[BF (gC _ (by simp)),BD h.nm,df (ca _ (by simp))];unfold Bc;cases hp:p.plain with
 | true=>
  obtain⟨h1,h2⟩:=h.pl hp;simp only[if_true,tks,dW,R7,Sc,Sn];rw[ol (gC _ (by simp))];simp only;rw[show tks (pcS p.then_)=eF p.then_ from rfl,hpS];simp only[QR.bind];rw[df (fZ _ (by simp)),<-hp,<-h1,<-h2]
 | false=>
  have hc:=cR (h.co hp);simp only[RS,if_false,tks,dW,R7,Sc,Sn];rw[show tks (pcS p.then_)=eF p.then_ from rfl,show tks (pcS p.cond)=eF p.cond from rfl,Da hc];simp only;rw[ku hc (lP (m:=aa 124) (by simp) 1 _)];simp only[QR.bind];rw[df (fZ _ (by simp))];cases ho:p.over with
  | true=>
   simp only[if_true];rw[cC (fZ _ (by simp))];simp only;rw[hpS];simp only;rw[df (fZ _ (by simp)),<-hp,<-ho]
  | false=>
   simp only[RS,if_false];rw[bJ (t:=tm (aE 61 62)) (m:=aE 45 62) (by decide +kernel)];simp only;rw[df (fZ _ (by simp)),hpS];simp only;rw[df (fZ _ (by simp)),show(⟨p.name,false,false,p.cond,p.then_⟩:Pr)=p by cases p;simp_all]
theorem ux{p:Pr}(h:PrV p):∃ts,dP (eQ p)=.ok ts/\Sq ts (vH p):=by
 obtain⟨ts,h1,h2⟩:=rP (tI h);rw[xV h]at h1;exact⟨ts,h1,h2⟩
theorem CF{N:Int}{p:Pr}{ts:List Tok}(h:PrV p)(ht:dP (eQ p)=.ok ts):i6 N ts=.ok p []:=by
 obtain⟨ts',h1,h2⟩:=ux h;rw[ht]at h1;cases h1;have h3:=qB (N:=N) h [];rw[Se]at h3;obtain⟨b,h4,h5⟩:=(A2 (N:=N) (N':=N) h2.symm).ok_left h3;rw[h4,rC h5]
theorem eM{M:aq}{bm:List Nat}{u v:Value}(h:Rep M bm (.d (.lit u)) v):v=u:=by
 cases h with
 | d h=>cases h with
 | lit _ _=>rfl
theorem qJ{f:FuncId}{fn:Func}{a u:Value}{σ:LLV}(hf:Tryz.prog.funcs[f]? = some fn)(hn:(fn.name == "runtime.NumGoroutine")=false)(hb:fn.body.isNone=false)(hu:dx u)
 (h:∀pr w,G.kept pr w->Calls Tryz.prog f #[a] w fun e w'=>e=.returned u/\Ext w w'):Fun G f [.d (.lit a)] σ (az (.d (.lit u)) σ):=
 nH hf hn hb hu fun M bm pr w v hG hM h1=>by cases eM h1;exact h pr w hG.2
theorem oa{f:FuncId}{fn:Func}{a b u:Value}{σ:LLV}(hf:Tryz.prog.funcs[f]? = some fn)(hn:(fn.name == "runtime.NumGoroutine")=false)(hb:fn.body.isNone=false)(hu:dx u)
 (h:∀pr w,G.kept pr w->Calls Tryz.prog f #[a,b] w fun e w'=>e=.returned u/\Ext w w'):Fun G f [.d (.lit a),.d (.lit b)] σ (az (.d (.lit u)) σ):=
 qo hf hn hb hu fun M bm pr w v v' hG hM h1 h2=>by cases eM h1;cases eM h2;exact h pr w hG.2
theorem j5{P:Program}{f:FuncId}{args:Array Value}{w:World}{u:Value}(h:Calls P f args w fun e w'=>e=.returned u/\w'=w):Calls P f args w fun e w'=>e=.returned u/\Ext w w':=
 h.mono fun e w' ⟨he,hw⟩=>⟨he,hw▸Ext.refl _⟩
theorem nI{n:Nat}(h:n≤9223372036854775807):dx (.int .i64 n):=by
 simp only[dx,IntKind.min,IntKind.max,IntKind.signed,IntKind.bits];omega
theorem C0(l:Bs)(hl:l.length≤9223372036854775807)(σ:LLV):Fun G 154 [.d (ae (bs l)),.d (ae ⟨#[10]⟩)] σ (az (.d (ab (l.count 10:Nat))) σ):=
 oa Tryz.func154 (by kernel_rfl) (by kernel_rfl) (nI (Su Sl hl)) fun pr w _=>by
  have:=j5 (Tryz.strings_Count_one (bs l) 10 w);rw[cq]at this;exact this
theorem mA(s p:Bs)(σ:LLV):Fun G 110 [.d (ae (bs s)),.d (ae (bs p))] σ (az (.d (.lit (.bool (p.isPrefixOf s)))) σ):=
 oa Tryz.func110 (by kernel_rfl) (by kernel_rfl) trivial fun pr w _=>by
  have:=j5 (Tryz.strings_HasPrefix (bs s) (bs p) w);rw[cq,cq]at this;exact this
theorem CM:∀c:Nat,c<128->decide (0≤Lib.indexByte [32,9,10] ((c:Int).toNat.toUInt8))=(c==32||c==9||c==10):=by decide
theorem qL(n:Int)(h0 : -9223372036854775808≤n)(h1:n≤9223372036854775807)(hs:(Lib.itoa n).length≤maxLen)(σ:LLV):Fun G 89 [.d (ab n)] σ (az (.d (ae (bs (Lib.itoa n)))) σ):=
 qJ Tryz.func89 (by kernel_rfl) (by kernel_rfl) (by show(bs (Lib.itoa n)).size≤maxLen;rw[bO];exact hs) fun pr w hk=>by
  obtain⟨-,cs,T,z,g1,rfl⟩:=hk 3 _ (by rfl);refine(Tryz.strconv_Itoa n h0 h1 w ?_).mono fun e w' ⟨he,k,os,hw⟩=>⟨he,?_⟩
  .have hg:Tryz.prog.globalNamed "internal/strconv.uint64pow10" = some 3:=by kernel_rfl
   simp only[Lib.TabIs,World.var?,hg,Option.bind_some,g1]
  .subst hw
   exact⟨rfl,rfl,rfl,by simp[Sort.grow,World.drewN],fun i hi=>by
    show((w.drewN k).heap++os)[i]? = _;rw[Array.getElem?_append_left (by show i<w.heap.size;omega)];rfl⟩
theorem no(l:Bs)(v:Int)(hl:l.length≤9223372036854775806)(hp:Lib.parseIntB 64 l=.ok v)(hv:dx (.int .i64 v))(σ:LLV):Fun G 156 [.d (ae (bs l)),.d (ab 10),.d (ab 64)] σ (az (.tup [.d (ab v),.d (.lit .nilIface)]) σ):=
 rq Tryz.func156 (by kernel_rfl) (by kernel_rfl) (fun T k rows e=>by cases e) fun M bm pr w vs hG hM hl' hr=>by
  match vs,hl' with
  | [a,b,c],_=>
  have e1:=eM (hr 0 (by simp) (by simp));have e2:=eM (hr 1 (by simp) (by simp));have e3:=eM (hr 2 (by simp) (by simp));simp only[Si,Sj]at e1 e2 e3;subst e1 e2 e3;refine(Tryz.strconv_ParseInt_10_at64_ok (bs l) (by rw[bO];exact hl) v (by rw[cq];exact hp) w).mono fun e w' ⟨he,hw⟩=>⟨_,he,?_,?_⟩
  .rcases hw with rfl|⟨t,rfl⟩
   .exact Ext.refl _
   .exact Lib.bytesWorld_below _ _ _
  .refine .tup (vs:=[_,_]) rfl fun i g g'=>?_
   match i with
   | 0=>exact .d (.lit _ hv)
   | 1=>exact .d (.lit _ trivial)
theorem kM(l:Bs)(hl:l.length≤281474976710656)(hp:Lib.parseIntB 64 l=.range)(σ:LLV):Fun G 156 [.d (ae (bs l)),.d (ab 10),.d (ab 64)] σ (az (.tup [.junk,.iface 185 .junk]) σ):=
 rq Tryz.func156 (by kernel_rfl) (by kernel_rfl) (fun T k rows e=>by cases e) fun M bm pr w vs hG hM hl' hr=>by
  match vs,hl' with
  | [a,b,c],_=>
  have e1:=eM (hr 0 (by simp) (by simp));have e2:=eM (hr 1 (by simp) (by simp));have e3:=eM (hr 2 (by simp) (by simp));simp only[Si,Sj]at e1 e2 e3;subst e1 e2 e3;obtain⟨-,cs,T,z,g1,t,x,g2⟩:=hG.2 5 _ (by rfl);refine(Tryz.strconv_ParseInt_10_at64_range (bs l) (by rw[bO];exact hl) (by rw[cq];exact hp) (.iface t x) w (by simp[World.cell?,g1,g2]) (.inr ⟨_,_,rfl⟩)).mono fun e w' ⟨N,he,h1,h2,h3⟩=>⟨_,he,h3,?_⟩
  refine .tup (vs:=[_,_]) rfl fun i g g'=>?_
  match i with
  | 0=>exact .junk _
  | 1=>exact .iface (.junk _)
theorem Hk(l:List ByteArray)(hn:l.length≤140737488355328)(hlen:(Lib.join (l.map (·.data.toList)) [32]).length≤140737488355328)(σ:LLV):
 Fun G 88 [.d (dA l),.d (ae ⟨#[32]⟩)] σ (az (.d (ae (bs (Lib.join (l.map (·.data.toList)) [32])))) σ):=
 qo Tryz.func88 (by kernel_rfl) (by kernel_rfl) (by show(bs _).size≤maxLen;rw[bO];unfold maxLen;omega) fun M bm pr w v v' hG hM h1 h2=>by
  cases eM h2;obtain⟨p,cap,rfl,g1,g2,g3⟩:=kz hM h1;by_cases h0:l=[]
  .subst h0;exact j5 (Tryz.strings_Join_none p cap ⟨#[32]⟩ w)
  .have hp:0<l.length:=List.length_pos_iff.2 h0;obtain⟨b,off,rfl,g4⟩:=g3 0 (l[0]'hp) (Sa hp);refine Tryz.strings_Join b off cap l ⟨#[32]⟩ w (fun j x hj=>?_) (Lib.lt_of_cell g4) hn g1 hlen;obtain⟨b',off',e,g5⟩:=g3 j x hj;cases e;exact g5
theorem Ii:ByteP inn fm:=⟨fun b hb=>rfl,false,fun c h=>mh h,fun b hb=>mh (by omega)⟩
theorem F5:ByteP dig cZ:=⟨fun b hb=>rfl,false,fun c h=>by simp only[cZ,RU,decide_eq_false_iff_not];omega,fun b hb=>by simp only[dig,cZ,RU,decide_eq_false_iff_not];omega⟩
theorem Dt:ByteP (fun b=>b != 10) (fun c=>decide (c≠10)):=by
 refine⟨fun b hb=>?_,true,fun c h=>by simp;omega,fun b hb=>?_⟩
 .rw[RW];simp only[ne_eq,decide_eq_true_eq,bne_iff_ne];refine not_congr ⟨fun h=>UInt8.toNat_inj.1 (by show b.toNat=10;omega),fun h=>by rw[h];rfl⟩
 .simp only[bne_iff_ne,ne_eq];intro e;rw[e]at hb;revert hb;decide
theorem Eh(c:Int)(w:World):Calls Tryz.prog 113 #[.int .i32 c] w fun e w'=>e=.returned (.bool (decide (c≠10)))/\w=w':=by
 go_enter Tryz.func113,Tryz.ntmps113;go_wp2_with fail;go_ret;exact⟨aL (by by_cases h:c=10<;>simp[h]),rfl⟩
theorem qE{F:FuncId}{q:UInt8->Bool}{p:Int->Bool}(hq:ByteP q p)(hF:∀args w,(callFunc F args).run Tryz.prog w=.ok (.enter F args) w)
 (H:∀(c:Int) (w:World),Calls Tryz.prog F #[.int .i32 c] w fun e w'=>e=.returned (.bool (p c))/\w=w')(l:Bs)(hl:l.length≤9223372036854775807)(σ:LLV):
 Fun G 112 [.d (ae (bs l)),.fn F []] σ (az (.d (ab (l.takeWhile q).length)) σ):=
 qo Tryz.func112 (by kernel_rfl) (by kernel_rfl) (nI (Su (R5 _).length_le hl)) fun M bm pr w v v' hG hM h1 h2=>by
  cases eM h1;cases h2 with
  | @fn _ _ vs hl' h=>
  have:vs=[]:=Sd hl';subst this;have:=Iz F #[] q p hq hF (fun c w=>H c w) (bs l) w (by rw[bO];exact hl);rw[cq]at this;exact this
theorem sK(l:Bs)(hl:l.length≤9223372036854775807)(σ:LLV):Fun G 112 [.d (ae (bs l)),.fn 120 []] σ (az (.d (ab (l.takeWhile inn).length)) σ):=
 qE Ii (bN (P:=Tryz.prog) Tryz.func120 (by kernel_rfl) (by kernel_rfl)) gW l hl σ
theorem EY(l:Bs)(hl:l.length≤9223372036854775807)(σ:LLV):Fun G 112 [.d (ae (bs l)),.fn 117 []] σ (az (.d (ab (l.takeWhile dig).length)) σ):=
 qE F5 (bN (P:=Tryz.prog) Tryz.func117 (by kernel_rfl) (by kernel_rfl)) gI l hl σ
theorem Ci(l:Bs)(hl:l.length≤9223372036854775807)(σ:LLV):Fun G 112 [.d (ae (bs l)),.fn 113 []] σ (az (.d (ab (l.takeWhile (· != 10)).length)) σ):=
 qE Dt (bN (P:=Tryz.prog) Tryz.func113 (by kernel_rfl) (by kernel_rfl)) Eh l hl σ
theorem Ad(c:Nat)(h1:128≤c)(h2:c<256):∃x y:UInt8,Utf8.encode c=⟨#[x,y]⟩/\128≤y.toNat:=by
 refine⟨UInt8.ofNat (192+c/64),UInt8.ofNat (128+c%64),?_,?_⟩
 .have hv:Utf8.valid (c:Int)=true:=by simp only[Utf8.valid];simp;omega
  unfold Utf8.encode;simp only[hv,if_true,Int.toNat_natCast,show ¬c<128 by omega,if_false,show c<2048 by omega]
 .rw[UInt8.toNat_ofNat'];omega
theorem rc(c:Nat)(h1:128≤c)(h2:c<256)(w:World):Calls Tryz.prog 155 #[.string ⟨#[32,9,10]⟩,.int .i32 c] w fun e w'=>e=.returned (.int .i64 (-1))/\Ext w w':=by
 obtain⟨x,y,he,hy⟩:=Ad c h1 h2;have n1:(decide ((c:Int)<128))=false:=by simp;omega
 have n2:((c:Int)==65533)=false:=by simp;omega
 have n3:Lib.validRune (c:Int)=true:=by simp[Lib.validRune];omega
 have n4:((9:Int)==((y.toNat:Nat):Int))=false:=by simp;omega
 have n5:Lib.indexByte [10] ((y.toNat:Int).toNat.toUInt8) = -1:=by
  have:(10:UInt8)≠y:=by intro e;rw[<-e]at hy;revert hy;decide
  have e:(y.toNat:Int).toNat.toUInt8=y:=by simp
  rw[e];simp[Lib.indexByte,this]
 go_enter Tryz.func155,Tryz.ntmps155;go_wp2_with (first|(go_at_call 183;refine(Tryz.utf8_ValidRune _ _).mono ?_;rintro e w' ⟨rfl,rfl⟩)|(go_at_call 167;refine(Tryz.strings_IndexByte _ _ _).mono ?_;rintro e w' ⟨rfl,rfl⟩));refine wp_scope_straight ?_;go_wp2_with (first|(go_at_call 183;refine(Tryz.utf8_ValidRune _ _).mono ?_;rintro e w' ⟨rfl,rfl⟩)|(go_at_call 167;refine(Tryz.strings_IndexByte _ _ _).mono ?_;rintro e w' ⟨rfl,rfl⟩));go_loop [9,10,11,12] (fun i j k l=>i=.int .i64 1) (fun i j k l=>0);case atStart=>rfl
 case round=>
  subst hrel;go_wp2_with (first|(go_at_call 183;refine(Tryz.utf8_ValidRune _ _).mono ?_;rintro e w' ⟨rfl,rfl⟩)|(go_at_call 167;refine(Tryz.strings_IndexByte _ _ _).mono ?_;rintro e w' ⟨rfl,rfl⟩));refine wp_scope_straight ?_;go_wp2_with (first|(go_at_call 183;refine(Tryz.utf8_ValidRune _ _).mono ?_;rintro e w' ⟨rfl,rfl⟩)|(go_at_call 167;refine(Tryz.strings_IndexByte _ _ _).mono ?_;rintro e w' ⟨rfl,rfl⟩))
  have n6:∀(h1:1<(⟨#[32,9,10]⟩:ByteArray).size) (h2:1<(⟨#[x,y]⟩:ByteArray).size),((((⟨#[32,9,10]⟩:ByteArray)[1]'h1).toNat:Int) != (((⟨#[x,y]⟩:ByteArray)[1]'h2).toNat:Int))=true:=fun h1 h2=>by
   have a1:(⟨#[32,9,10]⟩:ByteArray)[1]'h1=9:=rfl;have a2:(⟨#[x,y]⟩:ByteArray)[1]'h2=y:=rfl;rw[a1,a2,bne,show(((9:UInt8).toNat:Int)==(y.toNat:Int))=false from n4];rfl
  have n7:∀(h2:1<(⟨#[x,y]⟩:ByteArray).size),Lib.indexByte [10] ((⟨#[x,y]⟩:ByteArray)[1]'h2) = -1:=fun h2=>by
   have a2:(⟨#[x,y]⟩:ByteArray)[1]'h2=y:=rfl;rw[a2];have e:(y.toNat:Int).toNat.toUInt8=y:=by simp
   rw[e]at n5;exact n5
  go_region;go_wp2_with fail;go_region_with (first|(go_at_call 167;refine(Tryz.strings_IndexByte _ _ _).mono ?_;rintro e w' ⟨rfl,rfl⟩));all_goals (go_wp2_with fail)
  all_goals (rw[Exit.noGoto_ret];go_wp2_with fail)
  all_goals (rw[Exit.noGoto_ret];go_wp2_with fail;go_ret;exact⟨rfl,(Ext.refl _).drew.drew⟩)
theorem nB(c:Nat)(h1:128≤c)(h2:c<256)(w:World):Calls Tryz.prog 114 #[.string ⟨#[32,9,10]⟩,.int .i32 c] w fun e w'=>e=.returned (.bool false)/\Ext w w':=by
 go_enter Tryz.func114,Tryz.ntmps114;go_wp2_with (go_at_call 155;refine(rc c h1 h2 _).mono ?_;rintro e w' ⟨rfl,hx⟩);go_ret;exact⟨rfl,hx⟩
theorem yX(l:Bs)(n:Nat)(h:n≤l.length):p9 true 0 (V.d (ae (bs l))) none (some (V.d (ab n)))=some (V.d (ae (bs (l.take n)))):=by
 simp[p9,fN,AM,bO,h,Jy]
theorem Ax(l:Bs)(n:Nat)(h:n≤l.length):p9 true 0 (V.d (ae (bs l))) (some (V.d (ab n))) none=some (V.d (ae (bs (l.drop n)))):=by
 have:=Jp l n;rw[bO]at this;simp[p9,fN,AM,bO,h,this]
theorem gV:decide (bs []=({data := #[]}:ByteArray))=true:=by rw[decide_eq_true_eq];rfl
theorem Is(c:UInt8)(r:Bs):decide (bs (c::r)=({data := #[]}:ByteArray))=false:=by
 rw[decide_eq_false_iff_not];intro h;have h2:=sa.1 (h:bs (c::r)=bs []);cases h2
theorem nY(c:UInt8)(r:Bs):ixV (V.d (ae (bs (c::r)))) (V.d (.lit (.int .i64 0)))=some (aI .u8 c.toNat):=by simp[ixV,cq]
theorem GZ(n:Nat)(h:n<256):IntKind.i32.wrap (n:Int)=n:=by
 simp[IntKind.wrap,IntKind.bits,IntKind.signed];split<;>omega
theorem CE(c:UInt8):(c.toNat==32||c.toNat==9||c.toNat==10)=j9 c:=by
 rw[RW];simp[j9,<-UInt8.toNat_inj]
theorem AX(q:UInt8->Bool):∀l:Bs,l.drop (l.takeWhile q).length=l.dropWhile q
 | []=>rfl
 | a::r=>by
  by_cases h:q a=true
  .rw[R8 h,List.dropWhile_cons_of_pos h,Sb,List.drop_succ_cons,AX q r]
  .rw[List.takeWhile_cons_of_neg h,List.dropWhile_cons_of_neg h];rfl
def rd(l:Bs)(n:Int):List V:=[.d (ae (bs l)),.d (ab n)]
theorem bv{k:Nat}{σ:LLV}{cs:List V}{i:Nat}(h:aj k σ=true)(hc:V.unders k cs=true):aj k (σ.set i cs)=true:=by
 unfold aj at h ⊢;rw[List.all_eq_true]at h ⊢;intro x hx;rcases List.mem_or_eq_of_mem_set hx with h1|rfl
 .exact h x h1
 .exact hc
theorem bP{σ σ' τ:LLV}{ρ:ah}{rs:List RV}{Q:Out->LLV->Prop}(hb:aj σ.length τ=true){v:V}(h:aU σ' ρ rs=some v)(hv:V.under σ.length v=true)(hσ:σ'.take σ.length=τ)(hq:Q (.ret v) τ):fin σ.length rs Q .ret ρ σ':=
 ⟨ρ,σ',.refl _ _ _,v,h,σ.length,Ss _,by rw[hσ];exact hb,hv,by rw[hσ];exact hq⟩
theorem dG{C:Cx}{f:FuncId}{args:List V}{σ τ:LLV}{v:V}{K P:V->LLV->Prop}{s:Tag K}{t:Tag P}(h:Fun C f args σ fun o σ'=>o=.ret v/\σ'=τ)(hk:K v τ):jN C f args σ K P s t:=
 h.mono fun o σ' ⟨e1,e2⟩=>by subst e1;subst e2;exact hk
def rdr(T:Int)(l:Bs):List V:=rd l (T-(l.count 10:Nat))
theorem ld(T:Int)(l:Bs)(n i:Nat)(hn:n≤l.length)(hl:l.length≤1000000)(h0:0≤T)(h1:T≤1000000000)(σ:LLV)(hi:σ[i]? = some (rdr T l)):
 Fun G 111 [.ptr i 0,.d (ab n)] σ fun o σ'=>o=.ret (.d (ae (bs (l.take n))))/\σ'=σ.set i (rdr T (l.drop n)):=by
 have hlt:i<σ.length:=(List.getElem?_eq_some_iff.1 hi).1;have hcl:(l.count 10:Nat)=(l.take n).count 10+(l.drop n).count 10:=by rw[<-List.count_append,List.take_append_drop]
 have hc2:l.count 10≤l.length:=Sl;refine ai Tryz.func111 P5 rfl fun hb hw=>?_;unfold O8;unfold rdr rd at hi;have hi':(σ.set i [.d (ae (bs (l.drop n))),.d (ab (T-(l.count 10:Nat)))])[i]? = some [.d (ae (bs (l.drop n))),.d (ab (T-(l.count 10:Nat)))]:=by simp[hlt]
 simp -dsimp only[aw,jV,jW,jX,jY,jZ,jA,reduceIte,reduceCtorEq,jB,jC,jD,jE,jF,jG,hi,yX l n hn,Ax l n hn,hi'];refine aN (C0 _ (by rw[List.length_take];omega) _) ?_;simp -dsimp only[aw,jV,jW,jX,jY,jZ,jA,reduceIte,reduceCtorEq,jB,jC,jD,jE,jF,jG,hi'];rw[aX (by omega) (by omega),Sf,show T-(l.count 10:Nat)+((l.take n).count 10:Nat)=T-((l.drop n).count 10:Nat)by omega];exact bP (τ:=σ.set i (rdr T (l.drop n))) (bv hb rfl) rfl rfl (by rw[R9 (by rw[R6];exact Ss _)];rfl) ⟨rfl,rfl⟩
theorem x9(c:Nat)(hc:c<256)(σ:LLV):Fun G 114 [.d (ae ⟨#[32,9,10]⟩),.d (.lit (.int .i32 c))] σ (az (.d (.lit (.bool (c==32||c==9||c==10)))) σ):=
 oa Tryz.func114 (by kernel_rfl) (by kernel_rfl) trivial fun pr w _=>by
  by_cases h:c<128
  .have:=j5 (Tryz.strings_ContainsRune_ascii ⟨#[32,9,10]⟩ c w (by omega) (by omega));rw[<-CM c h];exact this
  .have e:(c==32||c==9||c==10)=false:=by simp;omega
   rw[e];exact nB c (by omega) hc w
theorem wt(T:Int)(l:Bs)(i:Nat)(hl:l.length≤1000000)(h0:0≤T)(h1:T≤1000000000)(σ:LLV)(hi:σ[i]? = some (rdr T l)):
 Fun G 80 [.ptr i 0] σ fun o σ'=>o=.ret (.tup [])/\σ'=σ.set i (rdr T (bM l)):=by
 have hlt:i<σ.length:=(List.getElem?_eq_some_iff.1 hi).1;have hset:∀X:List V,(σ.set i X)[i]? = some X:=fun X=>by simp[hlt]
 have hself:σ.set i (rdr T l)=σ:=by rw[<-List.getElem?_eq_some_iff.1 hi |>.2];exact Sk hlt
 refine ai Tryz.func80 k80 rfl fun hb hw=>?_;unfold c80;simp -dsimp only[aw,jV,jW,jX,jY,jZ,jA,reduceIte,reduceCtorEq,jB,jC,jD,jE,jF,jG];refine ng (R:=fun(j:Nat) ρ σ'=>∃r:Bs,bM r=bM l/\r.length+j≤l.length/\ρ=[(0,.ptr i 0)]/\σ'=σ.set i (rdr T r)) (l.length+1) ⟨l,rfl,by omega,rfl,hself.symm⟩ ?_ _;rintro j ρ' σ' hj ⟨r,hr,hrl,rfl,rfl⟩;have hset':=hset (rdr T r);have hset2:=hset';unfold rdr rd at hset2;simp -dsimp only[aw,jV,jW,jX,jY,jZ,jA,reduceIte,reduceCtorEq,jB,jC,jD,jE,jF,jG,hset2,rdr,rd];refine ac (mA r [47,47] _) ?_
 have next:∀r2:Bs,bM r2=bM l->r2.length<r.length->j<l.length+1/\Nxt σ.length (fun ρ σ'=>∃r,bM r=bM l/\r.length+(j+1)≤l.length/\ρ=[(0,V.ptr i 0)]/\σ'=σ.set i (rdr T r)) [(0,.ptr i 0)] (σ.set i (rdr T r2)) .mk:=fun r2 h2 h3=>
  ⟨by omega,Nxt.same (by simp) (by rw[R6];exact bv hb rfl) (by simp[am,V.under,hlt]) ⟨r2,h2,by omega,rfl,rfl⟩⟩
 cases hpre:([47,47]:Bs).isPrefixOf r with
 | true=>
  obtain⟨r2,hr2⟩:=List.isPrefixOf_iff_prefix.1 hpre;have hdw:r.drop (r.takeWhile (· != 10)).length=r.dropWhile (· != 10):=AX _ r
  have hsk:bM r=bM (r.dropWhile (· != 10)):=by
   subst hr2;rw[R7,du,if_neg (by decide),if_pos ⟨rfl,rfl⟩]
  have htw:(r.takeWhile (· != 10)).length≤r.length:=(R5 _).length_le
  have htp:1≤(r.takeWhile (· != 10)).length:=by
   subst hr2;rw[R7,R8 (by decide)];simp
  simp -dsimp only[aw,jV,jW,jX,jY,jZ,jA,reduceIte,reduceCtorEq,jB,jC,jD,jE,jF,jG,hset2];refine ac (Ci r (by omega) _) ?_;simp -dsimp only[aw,jV,jW,jX,jY,jZ,jA,reduceIte,reduceCtorEq,jB,jC,jD,jE,jF,jG];refine dG (ld T r _ i htw (by omega) h0 h1 _ hset2) ?_;rw[Sf];simp -dsimp only[aw,jV,jW,jX,jY,jZ,jA,reduceIte,reduceCtorEq,jB,jC,jD,jE,jF,jG];exact next _ (by rw[hdw,<-hsk,hr]) (by rw[Sm];omega)
 | false=>
  match r with
  | []=>
   simp -dsimp only[aw,jV,jW,jX,jY,jZ,jA,reduceIte,reduceCtorEq,jB,jC,jD,jE,jF,jG,hset2,gV];rw[dZ]at hr;exact bP (τ:=σ.set i (rdr T [])) (bv hb rfl) rfl rfl (by rw[R9 (by rw[R6];exact Ss _)];rfl) ⟨rfl,by rw[<-hr]⟩
  | c::r2=>
   simp -dsimp only[aw,jV,jW,jX,jY,jZ,jA,reduceIte,reduceCtorEq,jB,jC,jD,jE,jF,jG,hset2,Is,nY];have hc:c.toNat<256:=c.toNat_lt;rw[GZ _ hc];refine ac (x9 c.toNat hc _) ?_;rw[CE];cases hbl:j9 c with
   | true=>
    simp -dsimp only[aw,jV,jW,jX,jY,jZ,jA,reduceIte,reduceCtorEq,jB,jC,jD,jE,jF,jG,hset2];refine dG (ld T (c::r2) 1 i (by simp) (by omega) h0 h1 _ hset2) ?_;rw[Sf];simp -dsimp only[aw,jV,jW,jX,jY,jZ,jA,reduceIte,reduceCtorEq,jB,jC,jD,jE,jF,jG];exact next r2 (by rw[<-hr,du,if_pos hbl]) (by simp)
   | false=>
    simp -dsimp only[aw,jV,jW,jX,jY,jZ,jA,reduceIte,reduceCtorEq,jB,jC,jD,jE,jF,jG,hset2]
    have hs:bM (c::r2)=c::r2:=by
     rw[du,if_neg (by rw[hbl];decide),if_neg];rintro⟨rfl,h⟩
     match r2,h with
     | d::r3,h=>
      simp only[Sr,Option.some.injEq]at h;subst h;simp at hpre
    exact bP (τ:=σ.set i (rdr T (c::r2))) (bv hb rfl) rfl rfl (by rw[R9 (by rw[R6];exact Ss _)];rfl) ⟨rfl,by rw[<-hr,hs]⟩
def dC(kind num:Int)(text:Bs)(line:Int):V:=.agg [.d (ab kind),.d (ab num),.d (ae (bs text)),.d (ab line)]
def cJ:V:=dC 0 0 [] 0
theorem wP(s:Bs)(σ:LLV):Fun G 85 [.d (ae (bs s))] σ (az (.d (.lit (.bool (inB (bs s) dn)))) σ):=
 nH Tryz.func85 (by kernel_rfl) (by kernel_rfl) trivial fun M bm pr w v hG hM h1=>by
  cases eM h1;exact(gQ (bs s) w (qr hG.1 hM)).mono fun e w' ⟨h1,h2⟩=>⟨h1,h2▸Ext.refl _⟩
theorem H8(T:Int)(l:Bs)(i:Nat)(hl:l.length≤1000000)(h0:0≤T)(h1:T≤1000000000)(σ:LLV)(hi:σ[i]? = some (rdr T l)):
 Fun G 116 [.ptr i 0] σ fun o σ'=>o=.ret (.tup (if 16<(l.takeWhile inn).length then[cJ,.d (ab 2)]else[dC (if inB (bs (l.takeWhile inn)) dn=true then 2 else 1) 0 (l.takeWhile inn) (T-(l.count 10:Nat)),.d (ab 0)]))/\σ'=σ.set i (rdr T (l.drop (l.takeWhile inn).length)):=by
 have hlt:i<σ.length:=(List.getElem?_eq_some_iff.1 hi).1;have htw:(l.takeWhile inn).length≤l.length:=(R5 _).length_le;have htk:l.take (l.takeWhile inn).length=l.takeWhile inn:=List.prefix_iff_eq_take.1 (R5 _) |>.symm
 refine ai Tryz.func116 RI rfl fun hb hw=>?_;unfold Mq;have hio:=fun t=>au hi t;unfold rdr rd at hio;simp -dsimp only[aw,jV,jW,jX,jY,jZ,jA,reduceIte,reduceCtorEq,jB,jC,jD,jE,jF,jG,hio];refine ac (sK l (by omega) _) ?_;simp -dsimp only[aw,jV,jW,jX,jY,jZ,jA,reduceIte,reduceCtorEq,jB,jC,jD,jE,jF,jG];refine dG (ld T l _ i htw hl h0 h1 _ (au hi _)) ?_;rw[aR hi,htk];obtain⟨σ1,hs1⟩:∃x,x=σ.set i (rdr T (l.drop (l.takeWhile inn).length)):=⟨_,rfl⟩
 have hl1:σ1.length=σ.length:=by rw[hs1,R6]
 have hb1:aj σ1.length σ1=true:=by rw[hl1,hs1];exact bv hb rfl
 rw[<-hs1,<-hl1];simp -dsimp only[aw,jV,jW,jX,jY,jZ,jA,reduceIte,reduceCtorEq,jB,jC,jD,jE,jF,jG,bO];by_cases h16:16<(l.takeWhile inn).length
 .have h16':(16:Int)<((l.takeWhile inn).length:Nat):=by omega
  simp -dsimp only[aw,jV,jW,jX,jY,jZ,jA,reduceIte,reduceCtorEq,jB,jC,jD,jE,jF,jG,decide_eq_true h16'];rw[if_pos h16];exact bP (τ:=σ1) hb1 (v:=.tup [cJ,.d (ab 2)]) (by simp[BB,aU,di,bu,cJ,dC,fx,aw,jV,jW,jX,jY,jZ,jA,reduceIte,reduceCtorEq,jB,jC,jD,jE,jF,jG]) rfl R0 ⟨rfl,rfl⟩
 .have h16':¬(16:Int)<((l.takeWhile inn).length:Nat):=by omega
  simp -dsimp only[aw,jV,jW,jX,jY,jZ,jA,reduceIte,reduceCtorEq,jB,jC,jD,jE,jF,jG,decide_eq_false h16'];rw[if_neg h16];refine ac (wP _ _) ?_;cases hkw:inB (bs (l.takeWhile inn)) dn with
  | true=>
   simp -dsimp only[aw,jV,jW,jX,jY,jZ,jA,reduceIte,reduceCtorEq,jB,jC,jD,jE,jF,jG];exact bP (τ:=σ1) hb1 (v:=.tup [dC 2 0 (l.takeWhile inn) (T-(l.count 10:Nat)),.d (ab 0)]) (by simp[BB,aU,di,bu,cJ,dC,fx,aw,jV,jW,jX,jY,jZ,jA,reduceIte,reduceCtorEq,jB,jC,jD,jE,jF,jG]) rfl R0 ⟨rfl,rfl⟩
  | false=>
   simp -dsimp only[aw,jV,jW,jX,jY,jZ,jA,reduceIte,reduceCtorEq,jB,jC,jD,jE,jF,jG];exact bP (τ:=σ1) hb1 (v:=.tup [dC 1 0 (l.takeWhile inn) (T-(l.count 10:Nat)),.d (ab 0)]) (by simp[BB,aU,di,bu,cJ,dC,fx,aw,jV,jW,jX,jY,jZ,jA,reduceIte,reduceCtorEq,jB,jC,jD,jE,jF,jG]) rfl R0 ⟨rfl,rfl⟩
theorem yU(T:Int)(c:UInt8)(r:Bs)(i:Nat)(hl:(c::r).length≤1000000)(hc:dig c=true)(h0:0≤T)(h1:T≤1000000000)(σ:LLV)(hi:σ[i]? = some (rdr T (c::r))):
 Fun G 118 [.ptr i 0] σ fun o σ'=>o=.ret (.tup (if(1<(c::r.takeWhile dig).length/\c=48)\/(r.drop (r.takeWhile dig).length).takeWhile inn≠[]then[cJ,.d (ab 5)]else if 2147483647<eS (c::r.takeWhile dig)then[cJ,.d (ab 3)]else[dC 3 (eS (c::r.takeWhile dig)) (c::r.takeWhile dig) (T-((c::r).count 10:Nat)),.d (ab 0)]))/\σ'=σ.set i (rdr T (r.drop (r.takeWhile dig).length)):=by
 have hlt:i<σ.length:=(List.getElem?_eq_some_iff.1 hi).1;have htc:(c::r).takeWhile dig=c::r.takeWhile dig:=R8 hc;have htw:((c::r).takeWhile dig).length≤(c::r).length:=(R5 _).length_le;have htk:(c::r).take ((c::r).takeWhile dig).length=(c::r).takeWhile dig:=List.prefix_iff_eq_take.1 (R5 _) |>.symm
 have hdr:(c::r).drop ((c::r).takeWhile dig).length=r.drop (r.takeWhile dig).length:=by rw[htc];rfl
 have hds:∀x,x∈c::r.takeWhile dig->dig x=true:=fun x hx=>by rw[<-htc]at hx;exact List.all_eq_true.1 (List.all_takeWhile (l:=c::r) (p:=dig)) x hx
 refine ai Tryz.func118 Qo rfl fun hb hw=>?_;unfold Mm;have hio:=fun t=>au hi t;unfold rdr rd at hio;simp -dsimp only[aw,jV,jW,jX,jY,jZ,jA,reduceIte,reduceCtorEq,jB,jC,jD,jE,jF,jG,hio];refine ac (EY (c::r) (by omega) _) ?_;simp -dsimp only[aw,jV,jW,jX,jY,jZ,jA,reduceIte,reduceCtorEq,jB,jC,jD,jE,jF,jG];refine dG (ld T (c::r) _ i htw hl h0 h1 _ (au hi _)) ?_;rw[aR hi,htk,hdr,htc];rw[htc]at htw;generalize htx:r.takeWhile dig=tx at *;generalize hrs:r.drop tx.length=rs at *;obtain⟨σ1,hs1⟩:∃x,x=σ.set i (rdr T rs):=⟨_,rfl⟩
 have hl1:σ1.length=σ.length:=by rw[hs1,R6]
 have hb1:aj σ1.length σ1=true:=by rw[hl1,hs1];exact bv hb rfl
 have hi1:σ1[i]? = some (rdr T rs):=by rw[hs1];simp[hlt]
 have hio1:=fun t=>au hi1 t;unfold rdr rd at hio1;rw[<-hs1,<-hl1];have hrl:rs.length≤1000000:=by rw[<-hrs,Sm];simp only[Sb]at hl;omega
 simp -dsimp only[aw,jV,jW,jX,jY,jZ,jA,reduceIte,reduceCtorEq,jB,jC,jD,jE,jF,jG,bO,nY,hio1]
 have e48:decide ((c.toNat:Int)=48)=decide (c=48):=by
  rw[decide_eq_decide];exact⟨fun h=>UInt8.toNat_inj.1 (by show c.toNat=48;omega),fun h=>by rw[h];rfl⟩
 have hy:((tx.length:Nat)+1:Nat)=(c::tx).length:=rfl;by_cases hx:1<(c::tx).length/\c=48
 .obtain⟨ha,hc48⟩:=hx;have ha':(1:Int)<((tx.length+1:Nat):Int):=by simp only[Sb]at ha;omega
  simp -dsimp only[aw,jV,jW,jX,jY,jZ,jA,reduceIte,reduceCtorEq,jB,jC,jD,jE,jF,jG,decide_eq_true ha',nY,e48,decide_eq_true hc48];rw[if_pos (.inl ⟨ha,hc48⟩)];exact bP (τ:=σ1) hb1 (v:=.tup [cJ,.d (ab 5)]) (by simp[mG,aU,di,bu,cJ,dC,fx,aw,jV,jW,jX,jY,jZ,jA,reduceIte,reduceCtorEq,jB,jC,jD,jE,jF,jG]) rfl R0 ⟨rfl,rfl⟩
 .by_cases ha:(1:Int)<((tx.length+1:Nat):Int)
  rotate_left
  .simp -dsimp only[aw,jV,jW,jX,jY,jZ,jA,reduceIte,reduceCtorEq,jB,jC,jD,jE,jF,jG,decide_eq_false ha,hio1];refine ac (sK rs (by omega) _) ?_;by_cases hsp:rs.takeWhile inn=[]
   .rw[if_neg (fun h=>h.elim hx (fun h=>h hsp)),hsp];simp -dsimp only[aw,jV,jW,jX,jY,jZ,jA,reduceIte,reduceCtorEq,jB,jC,jD,jE,jF,jG,So,RY,RX,RZ,decide_false];have hpd:=od (l:=c::tx) (by simp) hds;by_cases hbig:eS (c::tx)≤9223372036854775807
    .rw[if_pos hbig]at hpd;refine ac (no (c::tx) _ (by omega) hpd (nI hbig) _) ?_;by_cases hmx:2147483647<eS (c::tx)
     .have hmx':(2147483647:Int)<((eS (c::tx):Nat):Int):=by omega
      simp -dsimp only[aw,jV,jW,jX,jY,jZ,jA,reduceIte,reduceCtorEq,jB,jC,jD,jE,jF,jG,decide_eq_true hmx'];rw[if_pos hmx];exact bP (τ:=σ1) hb1 (v:=.tup [cJ,.d (ab 3)]) (by simp[mG,aU,di,bu,cJ,dC,fx,aw,jV,jW,jX,jY,jZ,jA,reduceIte,reduceCtorEq,jB,jC,jD,jE,jF,jG]) rfl R0 ⟨rfl,rfl⟩
     .have hmx':¬(2147483647:Int)<((eS (c::tx):Nat):Int):=by omega
      simp -dsimp only[aw,jV,jW,jX,jY,jZ,jA,reduceIte,reduceCtorEq,jB,jC,jD,jE,jF,jG,decide_eq_false hmx'];rw[if_neg hmx];exact bP (τ:=σ1) hb1 (v:=.tup [dC 3 (eS (c::tx)) (c::tx) (T-((c::r).count 10:Nat)),.d (ab 0)]) (by simp[mG,aU,di,bu,cJ,dC,fx,aw,jV,jW,jX,jY,jZ,jA,reduceIte,reduceCtorEq,jB,jC,jD,jE,jF,jG]) rfl R0 ⟨rfl,rfl⟩
    .rw[if_neg hbig]at hpd;refine ac (kM (c::tx) (by omega) hpd _) ?_;rw[if_pos (show 2147483647<eS (c::tx)by omega)];simp -dsimp only[aw,jV,jW,jX,jY,jZ,jA,reduceIte,reduceCtorEq,jB,jC,jD,jE,jF,jG];exact bP (τ:=σ1) hb1 (v:=.tup [cJ,.d (ab 3)]) (by simp[mG,aU,di,bu,cJ,dC,fx,aw,jV,jW,jX,jY,jZ,jA,reduceIte,reduceCtorEq,jB,jC,jD,jE,jF,jG]) rfl R0 ⟨rfl,rfl⟩
   .rw[if_pos (.inr hsp)];have hsl:(0:Int)<((rs.takeWhile inn).length:Nat):=by have:=List.length_pos_iff.2 hsp;omega
    simp -dsimp only[aw,jV,jW,jX,jY,jZ,jA,reduceIte,reduceCtorEq,jB,jC,jD,jE,jF,jG,decide_eq_true hsl];exact bP (τ:=σ1) hb1 (v:=.tup [cJ,.d (ab 5)]) (by simp[mG,aU,di,bu,cJ,dC,fx,aw,jV,jW,jX,jY,jZ,jA,reduceIte,reduceCtorEq,jB,jC,jD,jE,jF,jG]) rfl R0 ⟨rfl,rfl⟩
  .have hc48:¬c=48:=fun h=>hx ⟨by simp only[Sb];omega,h⟩;simp -dsimp only[aw,jV,jW,jX,jY,jZ,jA,reduceIte,reduceCtorEq,jB,jC,jD,jE,jF,jG,decide_eq_true ha,nY,e48,decide_eq_false hc48,hio1];refine ac (sK rs (by omega) _) ?_;by_cases hsp:rs.takeWhile inn=[]
   .rw[if_neg (fun h=>h.elim hx (fun h=>h hsp)),hsp];simp -dsimp only[aw,jV,jW,jX,jY,jZ,jA,reduceIte,reduceCtorEq,jB,jC,jD,jE,jF,jG,So,RY,RX,RZ,decide_false];have hpd:=od (l:=c::tx) (by simp) hds;by_cases hbig:eS (c::tx)≤9223372036854775807
    .rw[if_pos hbig]at hpd;refine ac (no (c::tx) _ (by omega) hpd (nI hbig) _) ?_;by_cases hmx:2147483647<eS (c::tx)
     .have hmx':(2147483647:Int)<((eS (c::tx):Nat):Int):=by omega
      simp -dsimp only[aw,jV,jW,jX,jY,jZ,jA,reduceIte,reduceCtorEq,jB,jC,jD,jE,jF,jG,decide_eq_true hmx'];rw[if_pos hmx];exact bP (τ:=σ1) hb1 (v:=.tup [cJ,.d (ab 3)]) (by simp[mG,aU,di,bu,cJ,dC,fx,aw,jV,jW,jX,jY,jZ,jA,reduceIte,reduceCtorEq,jB,jC,jD,jE,jF,jG]) rfl R0 ⟨rfl,rfl⟩
     .have hmx':¬(2147483647:Int)<((eS (c::tx):Nat):Int):=by omega
      simp -dsimp only[aw,jV,jW,jX,jY,jZ,jA,reduceIte,reduceCtorEq,jB,jC,jD,jE,jF,jG,decide_eq_false hmx'];rw[if_neg hmx];exact bP (τ:=σ1) hb1 (v:=.tup [dC 3 (eS (c::tx)) (c::tx) (T-((c::r).count 10:Nat)),.d (ab 0)]) (by simp[mG,aU,di,bu,cJ,dC,fx,aw,jV,jW,jX,jY,jZ,jA,reduceIte,reduceCtorEq,jB,jC,jD,jE,jF,jG]) rfl R0 ⟨rfl,rfl⟩
    .rw[if_neg hbig]at hpd;refine ac (kM (c::tx) (by omega) hpd _) ?_;rw[if_pos (show 2147483647<eS (c::tx)by omega)];simp -dsimp only[aw,jV,jW,jX,jY,jZ,jA,reduceIte,reduceCtorEq,jB,jC,jD,jE,jF,jG];exact bP (τ:=σ1) hb1 (v:=.tup [cJ,.d (ab 3)]) (by simp[mG,aU,di,bu,cJ,dC,fx,aw,jV,jW,jX,jY,jZ,jA,reduceIte,reduceCtorEq,jB,jC,jD,jE,jF,jG]) rfl R0 ⟨rfl,rfl⟩
   .rw[if_pos (.inr hsp)];have hsl:(0:Int)<((rs.takeWhile inn).length:Nat):=by have:=List.length_pos_iff.2 hsp;omega
    simp -dsimp only[aw,jV,jW,jX,jY,jZ,jA,reduceIte,reduceCtorEq,jB,jC,jD,jE,jF,jG,decide_eq_true hsl];exact bP (τ:=σ1) hb1 (v:=.tup [cJ,.d (ab 5)]) (by simp[mG,aU,di,bu,cJ,dC,fx,aw,jV,jW,jX,jY,jZ,jA,reduceIte,reduceCtorEq,jB,jC,jD,jE,jF,jG]) rfl R0 ⟨rfl,rfl⟩
theorem rG(l:Bs):∀(ms:List Bs) (m:Bs) (b:Nat),fR (ms++[m]) b l=if fR ms b l<m.length/\m.isPrefixOf l=true then m.length else fR ms b l
 | [],m,b=>rfl
 | a::ms,m,b=>by simp only[R7,fR];exact rG l ms m _
theorem Hz(T:Int)(l:Bs)(i:Nat)(hl:l.length≤1000000)(h0:0≤T)(h1:T≤1000000000)(σ:LLV)(hi:σ[i]? = some (rdr T l)):
 Fun G 119 [.ptr i 0] σ fun o σ'=>o=.ret (.tup (if cG l=0 then[cJ,.d (ab 5)]else[dC 4 0 (l.take (cG l)) (T-(l.count 10:Nat)),.d (ab 0)]))/\σ'=σ.set i (rdr T (l.drop (cG l))):=by
 have hli:i<σ.length:=(List.getElem?_eq_some_iff.1 hi).1;have hbm:=(A8 l).1;have hmk:aS.length=36:=rfl;refine ai Tryz.func119 QJ rfl fun hb hw=>?_;unfold Pe;have hio:=fun t=>au hi t;unfold rdr rd at hio;have hg:∀ρ,ev G ρ (.g 1)=.row [.sl (aS.map fun s=>[.lit (.string (bs s))])] 0:=fun _=>rfl;simp -dsimp only[aw,jV,jW,jX,jY,jZ,jA,reduceIte,reduceCtorEq,jB,jC,jD,jE,jF,jG,hio,hg,List.length_map,hmk];generalize hrows:(aS.map fun s=>[D.lit (Value.string (bs s))])=rows;have hlen:rows.length=36:=by rw[<-hrows];rfl
 refine ng (R:=fun(j:Nat) ρ σ'=>ρ=[(0,.ptr i 0),(2,.ptr σ.length 0),(4,aI .i64 (fR (aS.take j) 0 l:Nat)),(8,.d (.sl rows)),(9,aI .i64 36),(10,aI .i64 j)]/\σ'=σ++[[.d (ab 0),.d (ab 0),.d (ae ⟨#[]⟩),.d (ab 0)]]) 36 ⟨rfl,rfl⟩ ?_ _;rintro j ρ' σ' hj ⟨rfl,rfl⟩;by_cases hlt:j<36
 .have hjm:j<aS.length:=hlt;have hrj:rows[j]? = some [D.lit (Value.string (bs aS[j]))]:=by rw[<-hrows,List.getElem?_map,Sa hjm];rfl
  have hlt':(j:Int)<36:=by omega
  have htk:aS.take (j+1)=aS.take j++[aS[j]]:=by rw[List.take_add_one,Sa hjm];rfl
  have hbs:=rG l (aS.take j) aS[j] 0;rw[<-htk]at hbs;generalize hm:aS[j]=m at *;generalize hbe:fR (aS.take j) 0 l=best at *;have hml:m.length≤2:=(by decide:∀m,m∈aS->m.length≤2) m (hm▸List.getElem_mem hjm)
  have next:∀b:Nat,fR (aS.take (j+1)) 0 l=b->j<36/\Nxt σ.length (fun ρ σ'=>ρ=[(0,V.ptr i 0),(2,V.ptr σ.length 0),(4,aI IntKind.i64 (fR (List.take (j+1) aS) 0 l:Nat)),(8,V.d (D.sl rows)),(9,aI IntKind.i64 36),(10,aI IntKind.i64 ((j+1:Nat):Int))]/\σ'=σ++[[V.d (ab 0),V.d (ab 0),V.d (ae {data := #[]}),V.d (ab 0)]]) [(0,.ptr i 0),(2,.ptr σ.length 0),(4,aI .i64 b),(8,.d (.sl rows)),(9,aI .i64 36),(10,aI .i64 ((j+1:Nat):Int))] (σ++[[.d (ab 0),.d (ab 0),.d (ae ⟨#[]⟩),.d (ab 0)]]) .mk:=fun b h=>
   ⟨hlt,Nxt.same (by simp) (av hb rfl) (by simp[am,V.under];omega) ⟨by rw[h],rfl⟩⟩
  simp -dsimp only[aw,jV,jW,jX,jY,jZ,jA,reduceIte,reduceCtorEq,jB,jC,jD,jE,jF,jG,decide_eq_true hlt',hrj,hio,bO];by_cases hgt:best<m.length
  .have hgt':(best:Int)<(m.length:Nat):=by omega
   simp -dsimp only[aw,jV,jW,jX,jY,jZ,jA,reduceIte,reduceCtorEq,jB,jC,jD,jE,jF,jG,decide_eq_true hgt',hio];refine ac (mA l m _) ?_;cases hp:m.isPrefixOf l with
   | true=>
    simp -dsimp only[aw,jV,jW,jX,jY,jZ,jA,reduceIte,reduceCtorEq,jB,jC,jD,jE,jF,jG,bO,bl hlt (by decide)];exact next _ (by rw[hbs,if_pos ⟨hgt,hp⟩])
   | false=>
    simp -dsimp only[aw,jV,jW,jX,jY,jZ,jA,reduceIte,reduceCtorEq,jB,jC,jD,jE,jF,jG,bl hlt (by decide)];exact next _ (by rw[hbs,if_neg (fun h=>by rw[hp]at h;cases h.2)])
  .have hgt':¬(best:Int)<(m.length:Nat):=by omega
   simp -dsimp only[aw,jV,jW,jX,jY,jZ,jA,reduceIte,reduceCtorEq,jB,jC,jD,jE,jF,jG,decide_eq_false hgt',bl hlt (by decide)];exact next _ (by rw[hbs,if_neg (fun h=>hgt h.1)])
 .have hlt':¬(j:Int)<36:=by omega
  simp -dsimp only[aw,jV,jW,jX,jY,jZ,jA,reduceIte,reduceCtorEq,jB,jC,jD,jE,jF,jG,decide_eq_false hlt',hio];have hbe:fR (aS.take j) 0 l=cG l:=by rw[R9 (by rw[hmk];omega)];rfl
  rw[hbe];by_cases hz:cG l=0
  .have hz':((cG l:Nat):Int)=0:=by omega
   have hself:σ.set i (rdr T (l.drop (cG l)))=σ:=by
    rw[hz,List.drop_zero,<-(List.getElem?_eq_some_iff.1 hi).2];exact Sk hli
   simp -dsimp only[aw,jV,jW,jX,jY,jZ,jA,reduceIte,reduceCtorEq,jB,jC,jD,jE,jF,jG,decide_eq_true hz'];rw[if_pos hz,hself];exact bP (τ:=σ) hb (v:=.tup [cJ,.d (ab 5)]) (by simp[H7,aU,di,bu,cJ,dC,fx,aw,jV,jW,jX,jY,jZ,jA,reduceIte,reduceCtorEq,jB,jC,jD,jE,jF,jG]) rfl R0 ⟨rfl,rfl⟩
  .have hz':¬((cG l:Nat):Int)=0:=by omega
   simp -dsimp only[aw,jV,jW,jX,jY,jZ,jA,reduceIte,reduceCtorEq,jB,jC,jD,jE,jF,jG,decide_eq_false hz',hio];refine dG (ld T l _ i hbm hl h0 h1 _ (au hi _)) ?_;rw[aR hi,if_neg hz];obtain⟨σ1,hs1⟩:∃x,x=σ.set i (rdr T (l.drop (cG l))):=⟨_,rfl⟩
   have hl1:σ1.length=σ.length:=by rw[hs1,R6]
   have hb1:aj σ1.length σ1=true:=by rw[hl1,hs1];exact bv hb rfl
   rw[<-hs1,<-hl1];simp -dsimp only[aw,jV,jW,jX,jY,jZ,jA,reduceIte,reduceCtorEq,jB,jC,jD,jE,jF,jG];exact bP (τ:=σ1) hb1 (v:=.tup [dC 4 0 (l.take (cG l)) (T-(l.count 10:Nat)),.d (ab 0)]) (by simp[H7,aU,di,bu,cJ,dC,fx,aw,jV,jW,jX,jY,jZ,jA,reduceIte,reduceCtorEq,jB,jC,jD,jE,jF,jG]) rfl R0 ⟨rfl,rfl⟩
def rf(T:Int)(l:Bs)(i:Nat)(σ:LLV)(o:Out)(σ':LLV):Prop:=match bY l with
 | .err e=>o=.ret (.tup [cJ,.d (ab e)])/\∃l',σ'=σ.set i (rdr T l')
 | .tok k n len=>o=.ret (.tup [dC k n (l.take len) (T-(l.count 10:Nat)),.d (ab 0)])/\σ'=σ.set i (rdr T (l.drop len))
theorem zZ(c:UInt8)(r:Bs)(h1:fj c.toNat=false)(h2:cZ c.toNat=false):bY (c::r)=if cG (c::r)=0 then .err 5 else .tok 4 0 (cG (c::r)):=by
 simp only[bY,h1,h2,RS,if_false]
theorem C5(c:Int)(σ:LLV):Fun G 115 [.d (.lit (.int .i32 c))] σ (az (.d (.lit (.bool (fj c)))) σ):=
 qJ Tryz.func115 (by kernel_rfl) (by kernel_rfl) trivial fun pr w _=>(eD c w).mono fun e w' ⟨h1,h2⟩=>⟨h1,h2▸Ext.refl _⟩
theorem Db(c:Int)(σ:LLV):Fun G 117 [.d (.lit (.int .i32 c))] σ (az (.d (.lit (.bool (cZ c)))) σ):=
 qJ Tryz.func117 (by kernel_rfl) (by kernel_rfl) trivial fun pr w _=>(gI c w).mono fun e w' ⟨h1,h2⟩=>⟨h1,h2▸Ext.refl _⟩
theorem C7(n:Nat)(T:Int)(l:Bs)(hn:cG l=n)(i:Nat)(hl:l.length≤1000000)(h0:0≤T)(h1:T≤1000000000)(σ:LLV)(hi:σ[i]? = some (rdr T l)):
 Fun G 119 [.ptr i 0] σ fun o σ'=>o=.ret (.tup (if n=0 then[cJ,.d (ab 5)]else[dC 4 0 (l.take n) (T-(l.count 10:Nat)),.d (ab 0)]))/\σ'=σ.set i (rdr T (l.drop n)):=by
 have h:=Hz T l i hl h0 h1 σ hi;rw[hn]at h;exact h
theorem Er(n:Nat)(T:Int)(l0:Bs)(hn:cG l0=n)(c:UInt8)(r:Bs)(he:l0=c::r)(i:Nat)(hl:l0.length≤1000000)(h0:0≤T)(h1:T≤1000000000)(σ:LLV)(hi:σ[i]? = some (rdr T l0)):
 Fun G 81 [.ptr i 0] σ (rf T l0 i σ):=by
 have hix:ixV (V.d (ae (bs l0))) (V.d (.lit (.int .i64 0)))=some (aI .u8 c.toNat):=by rw[he];exact nY c r
 have hlt:i<σ.length:=(List.getElem?_eq_some_iff.1 hi).1;refine ai Tryz.func81 k81 rfl fun hb hw=>?_;unfold c81;have hio:=fun t=>au hi t;unfold rdr rd at hio;simp -dsimp only[aw,jV,jW,jX,jY,jZ,jA,reduceIte,reduceCtorEq,jB,jC,jD,jE,jF,jG,hio,hix];rw[GZ _ c.toNat_lt];refine ac (C5 _ _) ?_
 have fin1:∀(X:List V) (σ1:LLV) (k n:Int) (tx:Bs) (ln e:Int) (B:List V),σ1.length=σ.length->σ1=σ.set i X->aj σ1.length σ1=true->rf T l0 i σ (.ret (.tup [dC k n tx ln,.d (ab e)])) σ1->
  fin σ1.length K9 (rf T l0 i σ) .ret [(2,.ptr σ1.length 0),(3,.d (ab e))] (σ1++[[.d (ab k),.d (ab n),.d (ae (bs tx)),.d (ab ln)]]):=fun X σ1 k n tx ln e B g1 g2 g3 g4=>
  bP (τ:=σ1) g3 (v:=.tup [dC k n tx ln,.d (ab e)]) (by simp[K9,aU,di,bu,dC,aw,jV,jW,jX,jY,jZ,jA,reduceIte,reduceCtorEq,jB,jC,jD,jE,jF,jG]) rfl R0 g4
 cases hlow:fj c.toNat with
 | true=>
  subst he;simp -dsimp only[aw,jV,jW,jX,jY,jZ,jA,reduceIte,reduceCtorEq,jB,jC,jD,jE,jF,jG];refine dG (H8 T (c::r) i hl h0 h1 _ (au hi _)) ?_;rw[aR hi];obtain⟨σ1,hs1⟩:∃x,x=σ.set i (rdr T ((c::r).drop ((c::r).takeWhile inn).length)):=⟨_,rfl⟩
  have hl1:σ1.length=σ.length:=by rw[hs1,R6]
  have hb1:aj σ1.length σ1=true:=by rw[hl1,hs1];exact bv hb rfl
  rw[<-hs1,<-hl1];have htk:(c::r).take ((c::r).takeWhile inn).length=(c::r).takeWhile inn:=List.prefix_iff_eq_take.1 (R5 _) |>.symm
  by_cases h16:16<((c::r).takeWhile inn).length
  .rw[if_pos h16];simp -dsimp only[aw,jV,jW,jX,jY,jZ,jA,reduceIte,reduceCtorEq,jB,jC,jD,jE,jF,jG,cJ,dC];refine fin1 _ σ1 0 0 [] 0 2 [] hl1 hs1 hb1 ?_;unfold rf;simp only[bY,hlow,if_true,h16];exact⟨rfl,_,hs1⟩
  .rw[if_neg h16];simp -dsimp only[aw,jV,jW,jX,jY,jZ,jA,reduceIte,reduceCtorEq,jB,jC,jD,jE,jF,jG,cJ,dC];refine fin1 _ σ1 _ 0 ((c::r).takeWhile inn) _ 0 [] hl1 hs1 hb1 ?_;unfold rf;simp only[bY,hlow,if_true,h16,if_false];exact⟨by rw[htk];rfl,hs1⟩
 | false=>
  simp -dsimp only[aw,jV,jW,jX,jY,jZ,jA,reduceIte,reduceCtorEq,jB,jC,jD,jE,jF,jG];refine ac (Db _ _) ?_;cases hdig:cZ c.toNat with
  | true=>
   subst he;simp -dsimp only[aw,jV,jW,jX,jY,jZ,jA,reduceIte,reduceCtorEq,jB,jC,jD,jE,jF,jG];refine dG (yU T c r i hl hdig h0 h1 _ (au hi _)) ?_;rw[aR hi];obtain⟨σ1,hs1⟩:∃x,x=σ.set i (rdr T (r.drop (r.takeWhile dig).length)):=⟨_,rfl⟩
   have hl1:σ1.length=σ.length:=by rw[hs1,R6]
   have hb1:aj σ1.length σ1=true:=by rw[hl1,hs1];exact bv hb rfl
   rw[<-hs1,<-hl1];have htc:(c::r).takeWhile dig=c::r.takeWhile dig:=R8 hdig;have hdr:(c::r).drop ((c::r).takeWhile dig).length=r.drop (r.takeWhile dig).length:=by rw[htc];rfl
   have hall:((c::r).takeWhile inn).all dig=((c::r).takeWhile inn).all fun x=>cZ x.toNat:=rfl;have hsp:=xx (c::r);rw[hdr,htc]at hsp;by_cases hA:(1<(c::r.takeWhile dig).length/\c=48)\/(r.drop (r.takeWhile dig).length).takeWhile inn≠[]
   .rw[if_pos hA];simp -dsimp only[aw,jV,jW,jX,jY,jZ,jA,reduceIte,reduceCtorEq,jB,jC,jD,jE,jF,jG,cJ,dC];refine fin1 _ σ1 0 0 [] 0 5 [] hl1 hs1 hb1 ?_
    have hcond:(((c::r).takeWhile inn).all fun x=>cZ x.toNat)=false\/(1<((c::r).takeWhile inn).length/\c=48):=by
     rcases hsp with⟨g1,g2,g3⟩|⟨g1,g2⟩
     .refine .inr ?_;rw[<-g2];exact hA.elim id (fun h=>absurd g3 h)
     .exact .inl g1
    unfold rf;simp only[bY,hlow,hdig,if_true,RS,if_false,hcond];exact⟨rfl,_,hs1⟩
   .rw[if_neg hA]
    have hsp1:((c::r).takeWhile inn).all dig=true/\c::r.takeWhile dig=(c::r).takeWhile inn:=by
     rcases hsp with⟨g1,g2,g3⟩|⟨g1,g2⟩
     .exact⟨g1,g2⟩
     .exact absurd (.inr g2) hA
    have hcond:¬((((c::r).takeWhile inn).all fun x=>cZ x.toNat)=false\/(1<((c::r).takeWhile inn).length/\c=48)):=by
     rintro(h|h)
     .rw[<-hall,hsp1.1]at h;cases h
     .rw[<-hsp1.2]at h;exact hA (.inl h)
    have hdr2:r.drop (r.takeWhile dig).length=(c::r).drop ((c::r).takeWhile inn).length:=by rw[<-hsp1.2];rfl
    have htk:(c::r).take ((c::r).takeWhile inn).length=(c::r).takeWhile inn:=List.prefix_iff_eq_take.1 (R5 _) |>.symm
    rw[hsp1.2];rw[hdr2]at hs1;by_cases hB:2147483647<eS ((c::r).takeWhile inn)
    .rw[if_pos hB];simp -dsimp only[aw,jV,jW,jX,jY,jZ,jA,reduceIte,reduceCtorEq,jB,jC,jD,jE,jF,jG,cJ,dC];refine fin1 _ σ1 0 0 [] 0 3 [] hl1 hs1 hb1 ?_;unfold rf;simp only[bY,hlow,hdig,if_true,RS,if_false,hcond,hB];exact⟨rfl,_,hs1⟩
    .rw[if_neg hB];simp -dsimp only[aw,jV,jW,jX,jY,jZ,jA,reduceIte,reduceCtorEq,jB,jC,jD,jE,jF,jG,cJ,dC];refine fin1 _ σ1 _ _ ((c::r).takeWhile inn) _ 0 [] hl1 hs1 hb1 ?_;unfold rf;simp only[bY,hlow,hdig,if_true,RS,if_false,hcond,hB];exact⟨by rw[htk],hs1⟩
  | false=>
   simp -dsimp only[aw,jV,jW,jX,jY,jZ,jA,reduceIte,reduceCtorEq,jB,jC,jD,jE,jF,jG];have hrd:bY l0=if n=0 then .err 5 else .tok 4 0 n:=by rw[<-hn,he];exact zZ c r hlow hdig
   refine dG (C7 n T l0 hn i hl h0 h1 _ (au hi _)) ?_;rw[aR hi];obtain⟨σ1,hs1⟩:∃x,x=σ.set i (rdr T (l0.drop n)):=⟨_,rfl⟩
   have hl1:σ1.length=σ.length:=by rw[hs1,R6]
   have hb1:aj σ1.length σ1=true:=by rw[hl1,hs1];exact bv hb rfl
   rw[<-hs1,<-hl1];by_cases hz:n=0
   .rw[if_pos hz];rw[if_pos hz]at hrd;simp -dsimp only[aw,jV,jW,jX,jY,jZ,jA,reduceIte,reduceCtorEq,jB,jC,jD,jE,jF,jG,cJ,dC];refine fin1 _ σ1 0 0 [] 0 5 [] hl1 hs1 hb1 ?_;unfold rf;rw[hrd];exact⟨rfl,_,hs1⟩
   .rw[if_neg hz];rw[if_neg hz]at hrd;simp -dsimp only[aw,jV,jW,jX,jY,jZ,jA,reduceIte,reduceCtorEq,jB,jC,jD,jE,jF,jG,cJ,dC];refine fin1 _ σ1 4 0 (l0.take n) _ 0 [] hl1 hs1 hb1 ?_;unfold rf;rw[hrd];exact⟨rfl,hs1⟩
end Go.Proofs.YthekkgfmagliiaaGreatDoor
