import Derived.Test.YtcbahpllcfbkmaaGreatDoorCt3
import Derived.Test.YtcbahpllcfbkmaaGreatDoorK3
set_option linter.unusedVariables false
set_option linter.unusedSimpArgs false
set_option linter.unusedSectionVars false
namespace Go.Proofs.YtcbahpllcfbkmaaGreatDoor
open Go.RowKit
def Em:ByteArray:=⟨#[115,111,102,116]⟩
def D6:ByteArray:=⟨#[100,105,115,116]⟩
def Bm:ByteArray:=⟨#[115,111,108,118,101]⟩
theorem uN{e:Ex}(h:b8 e=0)(r:Bs):aF e++[59]≠[115,111,102,116,32]++r:=
 yA h Em (by decide +kernel) (by decide) ⟨115,_,rfl,by decide⟩ [59] r (a8 (by decide))
theorem uP{e:Ex}(h:b8 e=0)(r:Bs):aF e++[59]≠[100,105,115,116,32]++r:=
 yA h D6 (by decide +kernel) (by decide) ⟨100,_,rfl,by decide⟩ [59] r (a8 (by decide))
theorem rR{e:Ex}(h:b8 e=0)(r:Bs):aF e++[59]≠[115,111,108,118,101,32]++r:=
 yA h Bm (by decide +kernel) (by decide) ⟨115,_,rfl,by decide⟩ [59] r (a8 (by decide))
theorem m5{e e':Ex}(h:b8 e=0)(h':b8 e'=0){q:Bs}(ht:aF e++q=aF e'++q):e=e':=yc h h' (List.append_cancel_right ht)
theorem C0(t:Bs):∀c r,(32::t:Bs)=c::r→vrB c=false:=a8 (by decide)
theorem Au{x y:It}{d d':Nat}(hx:aR x d=0)(hy:aR y d'=0)(h:eF x=eF y):HdEq x y:=by
 obtain⟨kx,-,-⟩:=dm hx;obtain⟨ky,-,-⟩:=dm hy
 have hl:(if x.kind=4∨x.kind=5 then(123:UInt8)else 59)=if y.kind=4∨y.kind=5 then 123 else 59:=by
  have h1:=nN x;rw[h,nN y]at h1;exact(Option.some.inj h1).symm
 have h45:(x.kind=4∨x.kind=5)↔(y.kind=4∨y.kind=5):=by
  by_cases c1:x.kind=4∨x.kind=5
  ·by_cases c2:y.kind=4∨y.kind=5
   ·exact⟨fun _=>c2,fun _=>c1⟩
   ·rw[if_pos c1,if_neg c2]at hl;exact absurd hl (by decide)
  ·by_cases c2:y.kind=4∨y.kind=5
   ·rw[if_neg c1,if_pos c2]at hl;exact absurd hl (by decide)
   ·exact⟨fun h=>absurd h c1,fun h=>absurd h c2⟩
 have ex:∀{z:It} {n:Nat},aR z n=0→z.kind=1∨z.kind=2∨z.kind=4→b8 z.ex=0:=fun hz hk=>gY hz hk;have T1:∀{z:It},z.kind=1→eF z=aF z.ex++[59]:=fun k=>by unfold eF;rw[if_pos k]
 have T2:∀{z:It},z.kind=2→eF z=[115,111,102,116,32]++(aF z.ex++[59]):=fun k=>by unfold eF;rw[if_neg (by omega),if_pos k]
 have T3:∀{z:It},z.kind=3→eF z=[100,105,115,116,32]++(aG z.name++([32,123,32]++(gN z.ws++[32,125,59]))):=fun k=>by unfold eF;rw[if_neg (by omega),if_neg (by omega),if_pos k]
 have T4:∀{z:It},z.kind=4→eF z=[105,102,32,40]++(aF z.ex++[41,32,123]):=fun k=>by unfold eF;rw[if_neg (by omega),if_neg (by omega),if_neg (by omega),if_pos k]
 have T5:∀{z:It},z.kind=5→eF z=[101,97,99,104,32]++(aG z.idx++([32,105,110,32]++(aG z.name++[32,123]))):=fun k=>by unfold eF;rw[if_neg (by omega),if_neg (by omega),if_neg (by omega),if_neg (by omega),if_pos k]
 have T6:∀{z:It},z.kind=6→eF z=[115,111,108,118,101,32]++(cd [44,32] (z.bef.map aG)++([32,98,101,102,111,114,101,32]++(cd [44,32] (z.aft.map aG)++[59]))):=fun k=>by unfold eF;rw[if_neg (by omega),if_neg (by omega),if_neg (by omega),if_neg (by omega),if_neg (by omega)]
 have hk6:x.kind=1∨x.kind=2∨x.kind=3∨x.kind=4∨x.kind=5∨x.kind=6:=by omega
 have hl6:y.kind=1∨y.kind=2∨y.kind=3∨y.kind=4∨y.kind=5∨y.kind=6:=by omega
 have hk:x.kind=y.kind:=by
  rcases hk6 with k|k|k|k|k|k<;>rcases hl6 with l|l|l|l|l|l<;>first|omega|skip
  ·rw[T1 k,T2 l]at h;exact absurd h (uN (ex hx (by omega)) _)
  ·rw[T1 k,T3 l]at h;exact absurd h (uP (ex hx (by omega)) _)
  ·rw[T1 k,T6 l]at h;exact absurd h (rR (ex hx (by omega)) _)
  ·rw[T2 k,T1 l]at h;exact absurd h.symm (uN (ex hy (by omega)) _)
  ·rw[T2 k,T3 l]at h;simp at h
  ·rw[T2 k,T6 l]at h;simp at h
  ·rw[T3 k,T1 l]at h;exact absurd h.symm (uP (ex hy (by omega)) _)
  ·rw[T3 k,T2 l]at h;simp at h
  ·rw[T3 k,T6 l]at h;simp at h
  ·rw[T4 k,T5 l]at h;simp at h
  ·rw[T5 k,T4 l]at h;simp at h
  ·rw[T6 k,T1 l]at h;exact absurd h.symm (rR (ex hy (by omega)) _)
  ·rw[T6 k,T2 l]at h;simp at h
  ·rw[T6 k,T3 l]at h;simp at h
 refine⟨hk,fun k=>?_,fun k=>?_,fun k=>?_,fun k=>?_⟩
 ·rcases k with k|k|k
  ·rw[T1 k,T1 (hk▸k)]at h;exact m5 (ex hx (by omega)) (ex hy (by omega)) h
  ·rw[T2 k,T2 (hk▸k)]at h;exact m5 (ex hx (by omega)) (ex hy (by omega)) (List.append_cancel_left h)
  ·rw[T4 k,T4 (hk▸k)]at h;exact m5 (ex hx (by omega)) (ex hy (by omega)) (List.append_cancel_left h)
 ·have l:y.kind=3:=by omega
  obtain⟨w1,w2,w3⟩:=kC hx k;obtain⟨v1,v2,v3⟩:=kC hy l;rw[T3 k,T3 l]at h;obtain⟨e1,e2⟩:=eJ vrB (pK w3) (pK v3) (C0 _) (C0 _) (List.append_cancel_left h);exact⟨gf e1,BV w1 v1 w2 v2 (List.append_cancel_right (List.append_cancel_left (show([32,123,32]:Bs)++(gN x.ws++[32,125,59])=[32,123,32]++(gN y.ws++[32,125,59])from e2)))⟩
 ·have l:y.kind=5:=by omega
  obtain⟨w1,w2⟩:=mw hx k;obtain⟨v1,v2⟩:=mw hy l;rw[T5 k,T5 l]at h;have nm:∀{t:ByteArray},aD t=true→∀c,c∈aG t→wdB c=true:=fun ht=>fg ht;obtain⟨e1,e2⟩:=eJ wdB (nm w2) (nm v2) (a8 (by decide)) (a8 (by decide)) (List.append_cancel_left h);exact⟨gf e1,gf (List.append_cancel_right (List.append_cancel_left (show([32,105,110,32]:Bs)++(aG x.name++[32,123])=[32,105,110,32]++(aG y.name++[32,123])from e2)))⟩
 ·have l:y.kind=6:=by omega
  obtain⟨w1,w2,w3,w4⟩:=iJ hx k;obtain⟨v1,v2,v3,v4⟩:=iJ hy l;rw[T6 k,T6 l]at h
  have all:∀{m:List ByteArray},(∀s,s∈m→aL s=true)→∀a,a∈m.map aG→∀c,c∈a→vrB c=true:=fun hm a ha=>by
   obtain⟨s,hs,rfl⟩:=List.mem_map.1 ha;exact pK (hm s hs)
  have ne:∀{m:List ByteArray},m≠[]→m.map aG≠[]:=fun hm e=>hm (by simpa using e);have sp:∀(t:Bs) c r,(32::t:Bs)=c::r→vrB c=false∧c≠44:=fun t c r e=>by cases e;exact⟨by decide,by decide⟩
  have sm:∀(t:Bs) c r,(59::t:Bs)=c::r→vrB c=false∧c≠44:=fun t c r e=>by cases e;exact⟨by decide,by decide⟩
  obtain⟨e1,e2⟩:=mf vrB (s0:=44) (by decide) (ne w1) (ne v1) (all w3) (all v3) (sp _) (sp _) (List.append_cancel_left h);obtain⟨e3,-⟩:=mf vrB (s0:=44) (by decide) (ne w2) (ne v2) (all w4) (all v4) (sm []) (sm []) (List.append_cancel_left (show([32,98,101,102,111,114,101,32]:Bs)++(cd [44,32] (x.aft.map aG)++[59])=[32,98,101,102,111,114,101,32]++(cd [44,32] (y.aft.map aG)++[59])from e2));exact⟨rQ e1,rQ e3⟩
theorem jx:∀{A B Q R:List Ln},(∃q t,Q=(0,q)::t)→(∃q t,R=(0,q)::t)→upL A++Q=upL B++R→A=B∧Q=R
 | [],[],_,_,_,_,h=>⟨rfl,h⟩
 | [],y::B,Q,R,⟨q,t,hq⟩,_,h=>by
  rw[hq]at h;have h:(0,q)::t=(y.1+1,y.2)::(upL B++R):=h;simp at h
 | x::A,[],Q,R,_,⟨q,t,hq⟩,h=>by
  rw[hq]at h;have h:(x.1+1,x.2)::(upL A++Q)=(0,q)::t:=h;simp at h
 | x::A,y::B,Q,R,h1,h2,h=>by
  have h:(x.1+1,x.2)::(upL A++Q)=(y.1+1,y.2)::(upL B++R):=h;simp only[List.cons.injEq,Prod.mk.injEq]at h;obtain⟨e1,e2⟩:=jx h1 h2 h.2;exact⟨by rw[e1];congr 1;exact Prod.ext (by omega) h.1.2,e2⟩
theorem Ax{e e':Ex}(h:dv e=true)(h':dv e'=true):e=e':=by
 have z:∀{a:Ex},dv a=true→a=.mk 0 0 ⟨#[]⟩ []:=by
  intro a ha;cases a with
  | mk o n s l=>
   have ha:(decide (o=0)&&decide (n=0)&&decide (s=⟨#[]⟩)&&l.isEmpty)=true:=ha;simp only[Bool.and_eq_true,decide_eq_true_eq,List.isEmpty_iff]at ha;obtain⟨⟨⟨rfl,rfl⟩,rfl⟩,rfl⟩:=ha;rfl
 rw[z h,z h']
theorem pR{x y:It}(hx:bv x=true)(hy:bv y=true)(hh:HdEq x y)(hk:1≤x.kind∧x.kind≤6)(hi:x.items=y.items)(he:x.els=y.els):x=y:=by
 obtain⟨h0,h1,h2,h3,h4⟩:=hh;unfold bv at hx hy;simp only[Bool.and_eq_true,Bool.or_eq_true,decide_eq_true_eq,List.isEmpty_iff]at hx hy;obtain⟨⟨⟨⟨⟨⟨a1,a2⟩,a3⟩,a4⟩,-⟩,-⟩,a7⟩:=hx;obtain⟨⟨⟨⟨⟨⟨b1,b2⟩,b3⟩,b4⟩,-⟩,-⟩,b7⟩:=hy
 have q1:x.ex=y.ex:=by
  by_cases c:x.kind=1∨x.kind=2∨x.kind=4
  ·exact h1 c
  ·exact Ax (a1.resolve_left c) (b1.resolve_left (by omega))
 have q2:x.name=y.name:=by
  by_cases c:x.kind=3
  ·exact(h2 c).1
  ·by_cases c5:x.kind=5
   ·exact(h3 c5).2
   ·rw[a2.resolve_left (by omega),b2.resolve_left (by omega)]
 have q3:x.idx=y.idx:=by
  by_cases c5:x.kind=5
  ·exact(h3 c5).1
  ·rw[a3.resolve_left c5,b3.resolve_left (by omega)]
 have q4:x.ws=y.ws:=by
  by_cases c:x.kind=3
  ·exact(h2 c).2
  ·rw[a4.resolve_left c,b4.resolve_left (by omega)]
 have q5:x.bef=y.bef∧x.aft=y.aft:=by
  by_cases c:x.kind=6
  ·exact h4 c
  ·have g1:=a7.resolve_left c;have g2:=b7.resolve_left (by omega);rw[g1.1,g1.2,g2.1,g2.2];exact⟨rfl,rfl⟩
 obtain⟨q5,q6⟩:=q5;clear h1 h2 h3 h4 a1 a2 a3 a4 a7 b1 b2 b3 b4 b7 hk;cases x with
 | mk k e nm ix ws l m bf af=>
 cases y with
 | mk k' e' nm' ix' ws' l' m' bf' af'=>
 simp only[It.kind,It.ex,It.name,It.idx,It.ws,It.items,It.els,It.bef,It.aft]at h0 hi he q1 q2 q3 q4 q5 q6;subst h0 hi he q1 q2 q3 q4 q5 q6;rfl
theorem ym(m:List It)(t:List Ln):∃q r,qv m++[(0,[125])]++t=(0,q)::r:=by
 unfold qv;split
 ·exact⟨_,_,rfl⟩
 ·exact⟨_,_,rfl⟩
theorem qC{x:It}{r:List It}{d:Nat}(h:rvl (x::r) d=0):rvl r d=0:=by
 rw[rvl]at h;split at h
 ·exact h
 ·rename_i hn;exact absurd h hn
theorem CO:∀(l:List It) (d:Nat) (m:List It) (d':Nat),rvl l d=0→rvl m d'=0→lns l=lns m→l=m:=by
 refine kw (fun d m d' _ _ h=>?_) fun x r h1 h2 h3 d m d' hv hv' h=>?_
 ·cases m with
  | nil=>rfl
  | cons y t=>rw[lns,lns,me]at h;cases h
 ·cases m with
  | nil=>rw[lns,lns,me]at h;cases h
  | cons y t=>
  obtain⟨s1,s2,s3⟩:=je hv (List.mem_cons_self ..);obtain⟨t1,t2,t3⟩:=je hv' (List.mem_cons_self ..);obtain⟨kx,px,-⟩:=dm s1;obtain⟨ky,py,-⟩:=dm t1;rw[lns,lns,me,me,List.cons_append,List.cons_append]at h;simp only[List.cons.injEq,Prod.mk.injEq,true_and]at h;obtain⟨hh,ht⟩:=h;have H:=Au s1 t1 hh;have hk:=H.kind;have hr:=qC hv;have hr':=qC hv';by_cases k4:x.kind=4
  ·have l4:y.kind=4:=by omega
   have e1:gr x=upL (lns x.items)++(qv x.els++[(0,[125])]):=by unfold gr;rw[if_pos k4]
   have e2:gr y=upL (lns y.items)++(qv y.els++[(0,[125])]):=by unfold gr;rw[if_pos l4]
   rw[e1,e2]at ht;have ht:upL (lns x.items)++(qv x.els++[(0,[125])]++lns r)=upL (lns y.items)++(qv y.els++[(0,[125])]++lns t):=by simpa only[List.append_assoc]using ht
   obtain⟨u1,u2⟩:=jx (ym _ _) (ym _ _) ht;have hi:=h1 (d+1) y.items (d'+1) s2 t2 u1
   have hz:x.els=y.els∧lns r=lns t:=by
    unfold qv at u2;cases mx:x.els with
    | nil=>
     cases my:y.els with
     | nil=>
      rw[mx,my]at u2;exact⟨rfl,(List.cons.inj u2).2⟩
     | cons b c=>rw[mx,my]at u2;simp at u2
    | cons b c=>
     cases my:y.els with
     | nil=>rw[mx,my]at u2;simp at u2
     | cons b' c'=>
      rw[mx,my]at u2;simp only[List.isEmpty_cons,Bool.false_eq_true,if_false,List.cons_append,List.append_assoc,List.cons.injEq,true_and]at u2;obtain⟨v1,v2⟩:=jx ⟨_,_,rfl⟩ ⟨_,_,rfl⟩ u2;have:=h2 (d+1) y.els (d'+1) s3 t3 (by rw[mx,my];exact v1);rw[mx,my]at this;exact⟨this,(List.cons.inj v2).2⟩
   rw[pR px py H kx hi hz.1,h3 d t d' hr hr' hz.2]
  ·have l4:¬y.kind=4:=by omega
   by_cases k5:x.kind=5
   ·have l5:y.kind=5:=by omega
    have e1:gr x=upL (lns x.items)++[(0,[125])]:=by unfold gr;rw[if_neg k4,if_pos k5]
    have e2:gr y=upL (lns y.items)++[(0,[125])]:=by unfold gr;rw[if_neg l4,if_pos l5]
    rw[e1,e2]at ht;have ht:upL (lns x.items)++((0,[125])::lns r)=upL (lns y.items)++((0,[125])::lns t):=by simpa only[List.append_assoc,List.cons_append,List.nil_append]using ht
    obtain⟨u1,u2⟩:=jx ⟨_,_,rfl⟩ ⟨_,_,rfl⟩ ht;have hi:=h1 (d+1) y.items (d'+1) s2 t2 u1
    have ex:∀{z:It},bv z=true→¬z.kind=4→z.els=[]:=fun hp hn=>by
     unfold bv at hp;simp only[Bool.and_eq_true,Bool.or_eq_true,decide_eq_true_eq,List.isEmpty_iff]at hp;exact hp.1.2.resolve_left hn
    rw[pR px py H kx hi (by rw[ex px k4,ex py l4]),h3 d t d' hr hr' (List.cons.inj u2).2]
   ·have l5:¬y.kind=5:=by omega
    have e1:gr x=[]:=by unfold gr;rw[if_neg k4,if_neg k5]
    have e2:gr y=[]:=by unfold gr;rw[if_neg l4,if_neg l5]
    rw[e1,e2]at ht;obtain⟨a1,a2⟩:=jS px (by omega);obtain⟨b1,b2⟩:=jS py (by omega);rw[pR px py H kx (by rw[a1,b1]) (by rw[a2,b2]),h3 d t d' hr hr' ht]
theorem zh(k:Nat):∀{l m:List Ln},(∀y,y∈l→LnOk y.2)→(∀y,y∈m→LnOk y.2)→aX k l=aX k m→l=m:=by
 have cons:∀(x:Ln) (r:List Ln),aX k (x::r)=blk (k+x.1)++(x.2++10::aX k r):=fun x r=>by
  show lnT k x++aX k r=_;unfold lnT;simp
 have sp:∀n c,c∈blk n→(c==32)=true:=fun n c hc=>by rw[(List.mem_replicate.1 hc).2];rfl
 intro l
 induction l with
 | nil=>
  intro m _ hm h;cases m with
  | nil=>rfl
  | cons y t=>
   rw[cons]at h;have:(aX k []).length=0:=rfl;rw[h]at this;simp at this
 | cons x r ih=>
  intro m hl hm h;cases m with
  | nil=>
   rw[cons]at h;have:(aX k []).length=0:=rfl;rw[←h]at this;simp at this
  | cons y t=>
   rw[cons,cons]at h;have ox:=hl x (by simp);have oy:=hm y (by simp)
   have hd:∀{b:Bs} (q:Bs),LnOk b→∀c r,b++10::q=c::r→(c==32)=false:=fun q ob c r e=>by
    obtain⟨c',r',e',hc⟩:=ob.hd;rw[e']at e;have:=(List.cons.inj e).1;rw[←this];simpa using hc
   obtain⟨e1,e2⟩:=eJ (fun c=>c==32) (sp _) (sp _) (hd _ ox) (hd _ oy) h
   have hn:x.1=y.1:=by
    have:=congrArg List.length e1;unfold blk at this;rw[List.length_replicate,List.length_replicate]at this;omega
   obtain⟨e3,e4⟩:=eJ prB (fun c hc=>List.all_eq_true.1 ox.pr c hc) (fun c hc=>List.all_eq_true.1 oy.pr c hc) (a8 (by decide)) (a8 (by decide)) e2;have:=ih (fun z hz=>hl z (by simp[hz])) (fun z hz=>hm z (by simp[hz])) (List.cons.inj e4).2;rw[this];congr 1;exact Prod.ext hn e3
end Go.Proofs.YtcbahpllcfbkmaaGreatDoor
