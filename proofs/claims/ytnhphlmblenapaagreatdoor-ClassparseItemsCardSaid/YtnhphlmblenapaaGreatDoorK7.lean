import Derived.Test.YtnhphlmblenapaaGreatDoorDg1
set_option linter.unusedVariables false
set_option linter.unusedSimpArgs false
set_option linter.unusedSectionVars false
set_option maxRecDepth 100000
open List renaming suffix_refl->Sq,length_singleton->Ss,length_nil->Su,length->Sv,length_append->Sw
open Nat renaming le_refl->Sx,le_of_lt->Sy,zero_add->SA,le_total->SB
namespace Go.Proofs.YtnhphlmblenapaaGreatDoor
open Go.RowKit
theorem EY{r q:List Tok}{e:Ex}(h:par .W r=.ok e q):q <:+ r/\bB e+q.length≤r.length:=by
 have h1:=ud (40*r.length+20) .W r;have h2:=iM .W r;have h0:=h;unfold par at h;rw[h]at h1;rw[h0]at h2;have h3:=h1.2;have h4:=h1.1;simp only[PK.size]at h3;exact⟨h2.1,by omega⟩
def Tk{α:Type}(sz:α->Nat)(c:Nat)(r:List Tok):CP α->Prop
 | .out=>False
 | .bad e _=>e≠0
 | .ok v q=>q <:+ r/\sz v+q.length≤c
section
variable {α β : Type} {sz : α -> Nat} {sy : β -> Nat} {c c' : Nat} {r : List Tok}
theorem Tk.weak{x:CP α}{q:List Tok}(h:Tk sz c q x)(hq:q <:+ r):Tk sz c r x:=by
 cases x with
 | out=>exact h
 | bad e n=>exact h
 | ok v p=>exact⟨h.1.trans hq,h.2⟩
theorem ce{x:CP β}{f:β->List Tok->CP α}(h:Tk sy c' r x)(hf:∀v q,q <:+ r->sy v+q.length≤c'->Tk sz c r (f v q)):Tk sz c r (x.bind f):=by
 cases x with
 | out=>exact h
 | bad e n=>exact h
 | ok v p=>exact hf v p h.1 h.2
theorem pp{z:Int}{q:List Tok}:Tk sz c r (iR z q):=by
 cases q with
 | nil=>exact(by decide:(6:Int)≠0)
 | cons t q=>exact(by decide:(5:Int)≠0)
variable {z : Int} {m : ByteArray} {q : List Tok}
theorem cE{k:List Tok->CP α}(hq:q <:+ r)(h:∀r1,r1 <:+ r->r1.length<q.length->Tk sz c r (k r1)):Tk sz c r (bQ z m q k):=by
 unfold bQ;cases ha:acc m q with
 | some r1=>exact h r1 ((aD ha).1.trans hq) (aD ha).2
 | none=>exact pp
theorem gG{k:List Tok->CP α}{n:CP α}(hq:q <:+ r)(h:∀r1,r1 <:+ r->r1.length<q.length->Tk sz c r (k r1))(hn:Tk sz c r n):Tk sz c r (dF m q k n):=by
 unfold dF;cases ha:acc m q with
 | some r1=>exact h r1 ((aD ha).1.trans hq) (aD ha).2
 | none=>exact hn
theorem iv{k:ByteArray->List Tok->CP α}(hq:q <:+ r)(h:∀s r1,r1 <:+ r->r1.length<q.length->Tk sz c r (k s r1)):Tk sz c r (dS z q k):=by
 unfold dS;cases ha:bT q with
 | some p=>exact h p.1 p.2 ((fe ha).1.trans hq) (fe ha).2
 | none=>exact pp
theorem kR{k:Int->List Tok->CP α}(hq:q <:+ r)(h:∀s r1,r1 <:+ r->r1.length<q.length->Tk sz c r (k s r1)):Tk sz c r (gD z q k):=by
 unfold gD;cases ha:cH q with
 | some p=>exact h p.1 p.2 ((iT ha).1.trans hq) (iT ha).2
 | none=>exact pp
theorem uo{k:Ex->List Tok->CP α}(hq:q <:+ r)(h:∀e r1,bz e=0->r1 <:+ r->bB e+r1.length≤q.length->Tk sz c r (k e r1)):Tk sz c r (exC z q k):=by
 unfold exC;cases ha:par .W q with
 | out=>exact absurd ha (fA _ _)
 | bad e p=>exact(pq ha).1
 | ok e p=>
  simp only;split
  .rename_i h0;exact h e p h0 ((EY ha).1.trans hq) (EY ha).2
  .rename_i h0;exact h0
def GD(f:α->List Tok->Option (CP α)):Prop:=∀a r x,f a r=some x->∀v q,x=.ok v q->q.length<r.length
theorem sD{f:α->List Tok->Option (CP α)}(hf:GD f):∀(n m:Nat) (a:α) (q:List Tok),q.length<n->q.length<m->iC f n a q=iC f m a q
 | 0,m,_,_,h,_=>by omega
 | n+1,0,_,_,_,h=>by omega
 | n+1,m+1,a,q,h1,h2=>by
  unfold iC;cases h:f a q with
  | none=>rfl
  | some x=>
   cases x with
   | out=>rfl
   | bad e l=>rfl
   | ok v p=>have:=hf a q _ h v p rfl;exact sD hf n m v p (by omega) (by omega)
theorem m5{f:α->List Tok->Option (CP α)}(hf:GD f)(a:α)(q:List Tok):fC f a q=match f a q with
 | none=>.ok a q
 | some x=>x.bind fun v p=>fC f v p:=by
 unfold fC;rw[iC];cases h:f a q with
 | none=>rfl
 | some x=>
  cases x with
  | out=>rfl
  | bad e l=>rfl
  | ok v p=>have:=hf a q _ h v p rfl;exact sD hf _ _ v p (by omega) (by omega)
def Stp(sz:α->Nat)(f:α->List Tok->Option (CP α)):Prop:=∀a r x,f a r=some x->Tk (fun v=>max (sz v) (sz a+1)) (sz a+r.length) r x
theorem Stp.eats{f:α->List Tok->Option (CP α)}(h:Stp sz f):GD f:=by
 intro a r x hx v q hv;have h1:=h a r x hx;subst hv;have:=h1.2;simp only at this;omega
theorem y5{f:α->List Tok->Option (CP α)}(h:Stp sz f):∀(n:Nat) (a:α) (q:List Tok),q.length<n->q <:+ r->sz a+q.length≤c->Tk sz c r (iC f n a q)
 | 0,_,_,h,_,_=>by omega
 | n+1,a,q,hn,hq,hc=>by
  unfold iC;cases hf:f a q with
  | none=>exact⟨hq,hc⟩
  | some x=>
   refine ce ((h a q x hf).weak hq) fun v p hp hs=>?_;exact y5 h n v p (by omega) hp (by omega)
theorem kw{f:α->List Tok->Option (CP α)}(h:Stp sz f){a:α}(hq:q <:+ r)(hc:sz a+q.length≤c):Tk sz c r (fC f a q):=y5 h _ a q (Nat.lt_succ_self _) hq hc
end
def fV{α:Type}(_:α):Nat:=1
def zr1{α:Type}(_:α):Nat:=0
theorem lG{α:Type}{v:α}{n m:Nat}(h:n≤m):zr1 v+n≤m:=by unfold zr1;omega
variable (z : Int)
theorem f6(r:List Tok):Tk fV r.length r (gc z r):=
 iv (Sq _) fun _ r1 h1 l1=>gG h1 (fun r2 h2 l2=>kR h2 fun _ r3 h3 l3=>cE h3 fun r4 h4 l4=>⟨h4,by unfold fV;omega⟩) ⟨h1,by unfold fV;omega⟩
theorem lb{α:Type}{p:List Tok->CP α}(h:∀r,Tk fV r.length r (p r)):Stp (α:=List α) Sv fun l r=>(acc (aa 44) r).map fun r2=>(p r2).bind fun s r3=>.ok (l++[s]) r3:=by
 intro l r x hx;simp only at hx;cases ha:acc (aa 44) r with
 | none=>rw[ha]at hx;cases hx
 | some r2=>
  rw[ha]at hx;cases hx;have:=aD ha;exact ce ((h r2).weak this.1) fun v q hq hs=>⟨hq,by unfold fV at hs;simp only[Sw,Ss];omega⟩
theorem ju(r:List Tok):Tk Sv r.length r (gz z r):=
 ce (f6 z r) fun _ q hq hs=>kw (lb (f6 z)) hq (by unfold fV at hs;rw[Ss];omega)
theorem iY(r:List Tok):Tk fV r.length r (gf z r):=
 kR (Sq _) fun _ r1 h1 l1=>ce (sy:=zr1) (c':=r1.length) (gG h1 (fun r2 h2 l2=>kR h2 fun _ r3 h3 l3=>⟨h3,lG (by omega)⟩) ⟨h1,lG (by omega)⟩) fun _ r2 h2 l2=>
  ce (sy:=zr1) (c':=r2.length) (gG h2 (fun r3 h3 l3=>⟨h3,lG (by omega)⟩) (cE h2 fun r3 h3 l3=>⟨h3,lG (by omega)⟩)) fun _ r3 h3 l3=>kR h3 fun _ r4 h4 l4=>⟨h4,by unfold fV;omega⟩
theorem xK(r:List Tok):Tk Sv r.length r (mU z r):=
 ce (iY z r) fun _ q hq hs=>kw (lb (iY z)) hq (by unfold fV at hs;rw[Ss];omega)
theorem mo(k:Int)(e:Ex)(nm ix:ByteArray)(ws:List Wt)(l m:List It)(bf af:List ByteArray):fN (.mk k e nm ix ws l m bf af)=1+bB e+ws.length+bf.length+af.length+bi l+bi m:=ep _
theorem qd:bB exZ=1:=rfl
theorem zj(r:List Tok):Tk fN r.length r (lL z r):=
 ce (f6 z r) fun _ r1 h1 l1=>cE h1 fun r2 h2 l2=>ce ((xK z r2).weak h2) fun l r3 h3 l3=>cE h3 fun r4 h4 l4=>cE h4 fun r5 h5 l5=>⟨h5,by
  rw[mo,qd];unfold fV at l1;simp only[Su,bi];omega⟩
theorem vp(r:List Tok):Tk fN r.length r (iK z r):=
 ce (ju z r) fun l r1 h1 l1=>cE h1 fun r2 h2 l2=>ce ((ju z r2).weak h2) fun m r3 h3 l3=>cE h3 fun r4 h4 l4=>⟨h4,by
  rw[mo,qd];simp only[Su,bi];omega⟩
theorem mG(k:Int)(r:List Tok):Tk fN r.length r (eP z k r):=
 uo (Sq _) fun e r1 _ h1 l1=>cE h1 fun r2 h2 l2=>⟨h2,by rw[mo];simp only[Su,bi];omega⟩
theorem pc{R:Rec}{c:Nat}{r q:List Tok}(h:∀p,p.length<q.length->Tk bi p.length p (R.rest [] p))(hq:q <:+ r):Tk bi (q.length-1) r (ir z R q):=
 cE hq fun r1 h1 l1=>by
  have h2:=(h r1 l1).weak h1;cases hx:R.rest [] r1 with
  | out=>rw[hx]at h2;exact h2
  | bad e n=>rw[hx]at h2;exact h2
  | ok v p=>rw[hx]at h2;exact⟨h2.1,by have:=h2.2;omega⟩
theorem Is{R:Rec}{r:List Tok}(h:∀p,p.length<r.length->Tk bi p.length p (R.rest [] p)):Tk fN r.length r (ifC z R r):=
 cE (Sq _) fun r2 h2 l2=>uo h2 fun e r3 _ h3 l3=>cE h3 fun r4 h4 l4=>ce (pc z (c:=0) (fun p hp=>h p (by omega)) h4) fun l r5 h5 l5=>
  ce (sy:=bi) (c':=r5.length) (gG h5 (fun r6 h6 l6=>by
   have h7:=pc z (c:=0) (fun p hp=>h p (by omega)) h6;cases hx:ir z R r6 with
   | out=>rw[hx]at h7;exact h7
   | bad e n=>rw[hx]at h7;exact h7
   | ok v p=>rw[hx]at h7;exact⟨h7.1,by have:=h7.2;omega⟩) ⟨h5,by simp only[bi];omega⟩) fun m r7 h7 l7=>⟨h7,by rw[mo];simp only[Su];omega⟩
theorem zl{R:Rec}{r:List Tok}(h:∀p,p.length<r.length->Tk bi p.length p (R.rest [] p)):Tk fN r.length r (kQ z R r):=
 iv (Sq _) fun i r2 h2 l2=>cE h2 fun r3 h3 l3=>iv h3 fun s r4 h4 l4=>ce (pc z (c:=0) (fun p hp=>h p (by omega)) h4) fun l r5 h5 l5=>⟨h5,by rw[mo,qd];simp only[Su,bi];omega⟩
theorem Gg{R:Rec}{r:List Tok}(h:∀p,p.length<r.length->Tk bi p.length p (R.rest [] p)):Tk fN r.length r ((kj z R).item r):=by
 have up:∀{r1:List Tok} {x:CP It},r1 <:+ r->r1.length<r.length->Tk fN r1.length r1 x->Tk fN r.length r x:=fun{r1 x} h1 l1 hx=>by
  have h2:=hx.weak h1;cases x with
  | out=>exact h2
  | bad e n=>exact h2
  | ok v p=>exact⟨h2.1,by have:=h2.2;omega⟩
 have hr:=Sq r
 exact gG hr (fun r1 h1 l1=>up h1 l1 (mG z 2 r1)) <| gG hr (fun r1 h1 l1=>up h1 l1 (zj z r1)) <| gG hr (fun r1 h1 l1=>up h1 l1 (Is z fun p hp=>h p (by omega))) <|
  gG hr (fun r1 h1 l1=>up h1 l1 (zl z fun p hp=>h p (by omega))) <| gG hr (fun r1 h1 l1=>up h1 l1 (vp z r1)) (mG z 1 r)
theorem rL(l m:List It):bi (l++m)=bi l+bi m:=by
 induction l with
 | nil=>simp[bi]
 | cons a l ih=>simp only[List.cons_append,bi,ih];omega
theorem sg(x:It):bi [x]=fN x:=by simp[bi]
theorem j9(x:It):1≤fN x:=by rw[ep];omega
theorem HM{R:Rec}{l:List It}{r:List Tok}(h:Tk fN r.length r (R.item r))(h2:∀l p,p.length<r.length->Tk bi (bi l+p.length) p (R.rest l p)):Tk bi (bi l+r.length) r ((kj z R).rest l r):=
 gG (Sq _) (fun r1 h1 l1=>⟨h1,by omega⟩) (ce h fun x p hp hs=>by
  have h3:=j9 x;have h4:=(h2 (l++[x]) p (by omega)).weak hp;cases hx:R.rest (l++[x]) p with
  | out=>rw[hx]at h4;exact h4
  | bad e n=>rw[hx]at h4;exact h4
  | ok v q=>rw[hx]at h4;exact⟨h4.1,by have:=h4.2;rw[rL,sg]at this;omega⟩)
theorem mO:∀n,(∀r,2*r.length+1≤n->Tk fN r.length r ((ft z n).item r))/\(∀l r,2*r.length+2≤n->Tk bi (bi l+r.length) r ((ft z n).rest l r))
 | 0=>⟨fun r h=>by omega,fun l r h=>by omega⟩
 | n+1=>⟨fun r h=>Gg z fun p hp=>by have:=(mO n).2 [] p (by omega);simp only[bi,SA]at this;exact this,fun l r h=>HM z ((mO n).1 r (by omega)) fun l p hp=>(mO n).2 l p (by omega)⟩
def CP.le{α:Type}(x y:CP α):Prop:=x=.out\/x=y
section
variable {α β : Type} {z : Int} {r : List Tok}
theorem CP.le.rfl{x:CP α}:x.le x:=.inr (Eq.refl x)
theorem oZ{x x':CP β}{f f':β->List Tok->CP α}(h:x.le x')(hf:∀e r,(f e r).le (f' e r)):(x.bind f).le (x'.bind f'):=by
 rcases h with rfl|rfl
 .exact .inl (Eq.refl _)
 .cases x with
  | out=>exact .inl (Eq.refl _)
  | bad e r=>exact .rfl
  | ok e r=>exact hf e r
theorem pd{m:ByteArray}{k k':List Tok->CP α}(h:∀r,(k r).le (k' r)):(bQ z m r k).le (bQ z m r k'):=by
 unfold bQ;cases acc m r with
 | some r1=>exact h r1
 | none=>exact .rfl
theorem nz{m:ByteArray}{k k':List Tok->CP α}{n n':CP α}(h:∀r,(k r).le (k' r))(hn:n.le n'):(dF m r k n).le (dF m r k' n'):=by
 unfold dF;cases acc m r with
 | some r1=>exact h r1
 | none=>exact hn
theorem zn{k k':ByteArray->List Tok->CP α}(h:∀s r,(k s r).le (k' s r)):(dS z r k).le (dS z r k'):=by
 unfold dS;cases bT r with
 | some p=>exact h _ _
 | none=>exact .rfl
theorem GQ{k k':Ex->List Tok->CP α}(h:∀s r,(k s r).le (k' s r)):(exC z r k).le (exC z r k'):=by
 unfold exC;cases par .W r with
 | out=>exact .rfl
 | bad c q=>exact .rfl
 | ok e q=>
  simp only;split
  .exact h _ _
  .exact .rfl
end
theorem uu{R S:Rec}(h1:∀r,(R.item r).le (S.item r))(h2:∀l r,(R.rest l r).le (S.rest l r)):(∀r,((kj z R).item r).le ((kj z S).item r))/\∀l r,((kj z R).rest l r).le ((kj z S).rest l r):=by
 have hb:∀q,(ir z R q).le (ir z S q):=fun q=>pd fun p=>h2 [] p;refine⟨fun r=>?_,fun l r=>nz (fun _=>.rfl) (oZ (h1 r) fun x p=>h2 _ p)⟩;refine nz (fun _=>.rfl) <| nz (fun _=>.rfl) <| nz (fun r1=>?_) <| nz (fun r1=>?_) <| .rfl
 .exact pd fun r2=>GQ fun e r3=>pd fun r4=>oZ (hb r4) fun l r5=>oZ (nz hb .rfl) fun _ _=>.rfl
 .exact zn fun i r2=>pd fun r3=>zn fun s r4=>oZ (hb r4) fun _ _=>.rfl
theorem pi:∀n,(∀r,((ft z n).item r).le ((ft z (n+1)).item r))/\∀l r,((ft z n).rest l r).le ((ft z (n+1)).rest l r)
 | 0=>⟨fun _=>.inl rfl,fun _ _=>.inl rfl⟩
 | n+1=>uu z (pi n).1 (pi n).2
theorem le_trans{α:Type}{x y w:CP α}(h:x.le y)(h2:y.le w):x.le w:=by
 rcases h with rfl|rfl
 .exact .inl rfl
 .exact h2
theorem lm{n m:Nat}(h:n≤m):(∀r,((ft z n).item r).le ((ft z m).item r))/\∀l r,((ft z n).rest l r).le ((ft z m).rest l r):=by
 induction h with
 | refl=>exact⟨fun _=>.rfl,fun _ _=>.rfl⟩
 | step h ih=>exact⟨fun r=>le_trans (ih.1 r) ((pi z _).1 r),fun l r=>le_trans (ih.2 l r) ((pi z _).2 l r)⟩
theorem n8(r:List Tok):Tk fN r.length r (jK z r):=(mO z _).1 r (Sx _)
theorem ux(l:List It)(r:List Tok):Tk bi (bi l+r.length) r (oK z l r):=(mO z _).2 l r (Sx _)
theorem Tk.ne{α:Type}{sz:α->Nat}{c:Nat}{r:List Tok}{x:CP α}(h:Tk sz c r x):x≠.out:=by rintro rfl;exact h
theorem sB(n:Nat)(r:List Tok):((ft z n).item r).le (jK z r):=by
 rcases SB n (2*r.length+1)with h|h
 .exact(lm z h).1 r
 .rcases(lm z h).1 r with e|e
  .exact absurd e (n8 z r).ne
  .exact .inr e.symm
theorem sP(n:Nat)(l:List It)(r:List Tok):((ft z n).rest l r).le (oK z l r):=by
 rcases SB n (2*r.length+2)with h|h
 .exact(lm z h).2 l r
 .rcases(lm z h).2 l r with e|e
  .exact absurd e (ux z l r).ne
  .exact .inr e.symm
theorem E5(r:List Tok):jK z r=(kj z (jM z)).item r:=by
 rcases(uu z (S:=jM z) (sB z (2*r.length)) (sP z (2*r.length))).1 r with e|e
 .exact absurd e (n8 z r).ne
 .exact e
theorem EH(l:List It)(r:List Tok):oK z l r=(kj z (jM z)).rest l r:=by
 rcases(uu z (S:=jM z) (sB z (2*r.length+1)) (sP z (2*r.length+1))).2 l r with e|e
 .exact absurd e (ux z l r).ne
 .exact e
theorem u7(r:List Tok):Tk zr1 r.length r (pS z r):=
 gG (Sq _) (fun r1 h1 l1=>kR h1 fun n r2 h2 l2=>by
  split
  .exact(by decide:(5:Int)≠0)
  .exact cE h2 fun r3 h3 l3=>⟨h3,lG (by omega)⟩) ⟨Sq _,lG (Sx _)⟩
theorem ja(m:Int)(r:List Tok):Tk fV r.length r (gE z m r):=
 iv (Sq _) fun s r1 h1 l1=>ce ((u7 z r1).weak h1) fun k r2 h2 l2=>cE h2 fun r3 h3 l3=>kR h3 fun w r4 h4 l4=>
  ce (sy:=zr1) (c':=r4.length) (by
   split
   .exact cE h4 fun r5 h5 l5=>kR h5 fun v r6 h6 l6=>⟨h6,lG (by omega)⟩
   .exact⟨h4,lG (Sx _)⟩) fun v r5 h5 l5=>cE h5 fun r6 h6 l6=>⟨h6,by unfold fV;omega⟩
theorem pD{α:Type}{x:CP α}{l:List α}{r r1:List Tok}{sz:α->Nat}(h1:r1 <:+ r)(l1:r1.length≤r.length)(h:Tk sz r1.length r1 x)(hp:∀v,1≤sz v):Tk (fun v=>max v.length (l.length+1)) (l.length+r.length) r (x.bind fun v q=>.ok (l++[v]) q):=
 ce (h.weak h1) fun v q hq hs=>⟨hq,by have:=hp v;simp only[Sw,Ss];omega⟩
def jp(z:Int)(l:List Fl)(r:List Tok):Option (CP (List Fl)):=match acc yY r with
 | some r1=>some ((gE z 1 r1).bind fun x q=>.ok (l++[x]) q)
 | none=>match acc sX r with
  | some r1=>some ((gE z 2 r1).bind fun x q=>.ok (l++[x]) q)
  | none=>match acc tE r with
   | some r1=>some ((gE z 0 r1).bind fun x q=>.ok (l++[x]) q)
   | none=>none
theorem qb(z:Int):Stp Sv (jp z):=by
 intro l r x hx;unfold jp at hx;cases h1:acc yY r with
 | some r1=>rw[h1]at hx;cases hx;exact pD (aD h1).1 (Sy (aD h1).2) (ja z 1 r1) fun _=>Sx _
 | none=>
 cases h2:acc sX r with
 | some r1=>rw[h1,h2]at hx;cases hx;exact pD (aD h2).1 (Sy (aD h2).2) (ja z 2 r1) fun _=>Sx _
 | none=>
 cases h3:acc tE r with
 | some r1=>rw[h1,h2,h3]at hx;cases hx;exact pD (aD h3).1 (Sy (aD h3).2) (ja z 0 r1) fun _=>Sx _
 | none=>rw[h1,h2,h3]at hx;cases hx
theorem rY(r:List Tok):Tk Sv r.length r (jl z r):=kw (qb z) (Sq _) (by simp)
def bsz(l:List (ByteArray×List It)):Nat:=(l.map fun b=>1+bi b.2).sum
def ksz(c:Kl):Nat:=1+c.flds.length+bsz c.blks
theorem ky{r q:List Tok}(hq:q <:+ r):Tk bi (q.length-1) r (ir z (jM z) q):=
 pc z (c:=0) (fun p _=>by have:=ux z [] p;simp only[bi,SA]at this;exact this) hq
theorem EP(r:List Tok):Tk (fun b:ByteArray×List It=>1+bi b.2) r.length r (nD z r):=
 iv (Sq _) fun s r1 h1 l1=>ce (ky z h1) fun l r2 h2 l2=>⟨h2,by simp only;omega⟩
theorem EM(l:List (ByteArray×List It))(b:ByteArray×List It):bsz (l++[b])=bsz l+(1+bi b.2):=by simp[bsz]
theorem qw(z:Int):Stp bsz fun(l:List (ByteArray×List It)) r=>(acc fd r).map fun r1=>(nD z r1).bind fun b r2=>.ok (l++[b]) r2:=by
 intro l r x hx;simp only at hx;cases ha:acc fd r with
 | none=>rw[ha]at hx;cases hx
 | some r2=>
  rw[ha]at hx;cases hx;have:=aD ha;exact ce ((EP z r2).weak this.1) fun v q hq hs=>⟨hq,by simp only[EM]at *;omega⟩
theorem Ae(r:List Tok):Tk bsz r.length r (mR z r):=kw (qw z) (Sq _) (by simp[bsz])
theorem vD(r:List Tok):Tk ksz r.length r (qR z r):=
 cE (Sq _) fun r1 h1 l1=>iv h1 fun s r2 h2 l2=>ce (sy:=zr1) (c':=r2.length) (gG h2 (fun r3 h3 l3=>iv h3 fun p r4 h4 l4=>⟨h4,lG (by omega)⟩) ⟨h2,lG (Sx _)⟩) fun p r3 h3 l3=>
  cE h3 fun r4 h4 l4=>ce ((rY z r4).weak h4) fun f r5 h5 l5=>ce ((Ae z r5).weak h5) fun b r6 h6 l6=>cE h6 fun r7 h7 l7=>⟨h7,by unfold ksz;simp only;omega⟩
theorem DZ{α:Type}{sz:α->Nat}{p:List Tok->CP α}(hp:∀r,Tk sz r.length r (p r))(h1:∀x,1≤sz x):GD fun(l:List α) r=>if r.isEmpty=true then none else some ((p r).bind fun x r1=>.ok (l++[x]) r1):=by
 intro l r x hx v q hv;simp only at hx;split at hx
 .cases hx
 cases hx;have h2:=hp r;cases hy:p r with
 | out=>rw[hy]at hv;cases hv
 | bad e n=>rw[hy]at hv;cases hv
 | ok y r3=>
  rw[hy]at hv h2;cases hv;have:=h2.2;have:=h1 y;omega
theorem mT(r:List Tok):Tk bi r.length r (iD z r):=by
 refine kw (sz:=bi) ?_ (Sq _) (by simp[bi]);intro l r x hx;simp only at hx;split at hx
 .cases hx
 .cases hx;exact ce (n8 z r) fun v q hq hs=>⟨hq,by have:=j9 v;simp only[rL,sg];omega⟩
theorem yU(r:List Tok):Tk ksz r.length r (yy z r):=
 ce (vD z r) fun c r1 h1 l1=>by
  split
  .exact⟨h1,l1⟩
  .exact pp
theorem AL(w:Int):(jM w).rest=oK w:=rfl
theorem yp(z:Int)(r:List Tok):jK z r=dF lK r (eP z 2) (dF qP r (lL z) (dF ifW r (ifC z (jM z)) (dF qf r (kQ z (jM z)) (dF mi r (iK z) (eP z 1 r))))):=E5 z r
theorem wS(z:Int)(l:List It)(r:List Tok):oK z l r=dF (aa 125) r (fun r1=>.ok l r1) ((jK z r).bind fun x r1=>oK z (l++[x]) r1):=EH z l r
end Go.Proofs.YtnhphlmblenapaaGreatDoor
namespace Go.Proofs.YtnhphlmblenapaaGreatDoor
open Go.RowKit
def c11:Cd:=sq [oM 4 (.mv kF)] [0,1] (.seq (sq [oV 6 0,ZN 7 6,oV 8 1,ZN 9 8,Yn 10 7 9] [0,1,10] (.cond (.t 10) (sq [oM 4 (.mv kF)] [4] .ret) .skip)) (.seq (sq [oI 5 0] [0,1,5] (.block 0 (.loop (.seq (sq [oV 11 5,oV 12 0,ZN 13 12,Yl 14 11 13] [0,1,5,14] (.cond (.t 14) .skip (.exit 0))) (.seq (.block 1 (.seq (.draw [oV 17 0,oV 18 5,ZI 19 12 17 18,ZM 20 12 19,oV 21 1,oV 22 5,ZI 23 12 21 22,
 ZM 24 12 23,ZD 25 31 20 24,ZU 26 25] [0,1,5,26]) (.cond (.t 26) (sq [oM 4 (.mv kF)] [4] .ret) .skip))) (.ops [oV 15 5,Wa 16 15 1,oV 5 16] [0,1,5])))))) (sq [oM 4 (.mv kT)] [4] .ret)))
def Q1:List RV:=[.t 4 false]
theorem k11:aF G.tab Tryz.f11 2 c11 Q1=true:=by kernel_rfl
def c31:Cd:=sq [ZB 2 54 0,ZB 3 54 1,oM 4 (.mv kF)] [2,3] (.seq (sq [ZF 6 0 2,ZL 7 1 6,ZF 8 0 3,ZL 9 1 8,Yn 10 7 9,oV 11 10,oH 12 11 (zF 1 2),oH 13 11 (zM 4 12),oH 14 11 (zF 1 3),oH 15 11 (zM 4 14),oH 16 11 (zD 79 13 15),oH 17 11 (zU 16),ZP 18 11 17,oV 19 18,oH 20 19 (zF 5 2),oH 21 19 (zL 1 20),oH 22 19 (zF 5 3),oH 23 19 (zL 1 22),oH 24 19 (yn 21 23),ZP 25 19 24,oV 26 25,oH 27 26 (zF 6 2),
 oH 28 26 (zL 1 27),oH 29 26 (zF 6 3),oH 30 26 (zL 1 29),oH 31 26 (yn 28 30),ZP 32 26 31,oV 33 32,oH 34 33 (zF 7 2),oH 35 33 (zL 1 34),oH 36 33 (zN 35),oH 37 33 (zF 7 3),oH 38 33 (zL 1 37),oH 39 33 (zN 38),oH 40 33 (yn 36 39),ZP 41 33 40] [2,3,41] (.cond (.t 41) (sq [oM 4 (.mv kF)] [4] .ret) .skip)) (.seq (sq [oI 5 0] [2,3,5] (.block 0 (.loop (.seq (sq [oV 42 5,ZF 43 7 2,ZL 44 1 43,ZN 45 44,
 Yl 46 42 45] [2,3,5,46] (.cond (.t 46) .skip (.exit 0))) (.seq (.block 1 (.seq (.draw [ZF 49 7 2,ZL 50 1 49,oV 51 5,ZI 52 4 50 51,ZM 53 4 52,ZF 54 7 3,ZL 55 1 54,oV 56 5,ZI 57 4 55 56,ZM 58 4 57,oM 59 (.eqa true 56 [.i .i64,.i .i64,.i .i64,.b] (.t 53) (.t 58))] [2,3,5,59]) (.cond (.t 59) (sq [oM 4 (.mv kF)] [4] .ret) .skip))) (.ops [oV 47 5,Wa 48 47 1,oV 5 48] [2,3,5])))))) (sq [ZF 60 8 2,
 ZL 61 1 60,ZF 62 8 3,ZL 63 1 62,ZD 64 11 61 63,oV 65 64,oG 66 65 (zF 9 2),oG 67 65 (zL 1 66),oG 68 65 (zF 9 3),oG 69 65 (zL 1 68),oG 70 65 (zD 11 67 69),ZQ 71 65 70,oV 72 71,oG 73 72 (zF 10 2),oG 74 72 (zL 1 73),oG 75 72 (zF 10 3),oG 76 72 (zL 1 75),oG 77 72 (zD 80 74 76),ZQ 78 72 77,oV 79 78,oG 80 79 (zF 11 2),oG 81 79 (zL 1 80),oG 82 79 (zF 11 3),oG 83 79 (zL 1 82),oG 84 79 (zD 80 81 83),
 ZQ 85 79 84,oV 4 85] [4] .ret)))
def QB:List RV:=[.t 4 false]
theorem k31:aF G.tab Tryz.f31 2 c31 QB=true:=by kernel_rfl
def c80:Cd:=sq [oM 4 (.mv kF)] [0,1] (.seq (sq [oV 6 0,ZN 7 6,oV 8 1,ZN 9 8,Yn 10 7 9] [0,1,10] (.cond (.t 10) (sq [oM 4 (.mv kF)] [4] .ret) .skip)) (.seq (sq [oI 5 0] [0,1,5] (.block 0 (.loop (.seq (sq [oV 11 5,oV 12 0,ZN 13 12,Yl 14 11 13] [0,1,5,14] (.cond (.t 14) .skip (.exit 0))) (.seq (.block 1 (.seq (.draw [oV 17 0,oV 18 5,ZI 19 1 17 18,ZL 20 1 19,oV 21 1,oV 22 5,ZI 23 1 21 22,ZL 24 1 23,
 Yn 25 20 24] [0,1,5,25]) (.cond (.t 25) (sq [oM 4 (.mv kF)] [4] .ret) .skip))) (.ops [oV 15 5,Wa 16 15 1,oV 5 16] [0,1,5])))))) (.seq (.ops [oM 4 (.mv kT)] [4]) .ret)))
def RN:List RV:=[.t 4 false]
theorem k80:aF G.tab Tryz.f80 2 c80 RN=true:=by kernel_rfl
end Go.Proofs.YtnhphlmblenapaaGreatDoor
namespace Go.Proofs.YtnhphlmblenapaaGreatDoor
open Go.RowKit
def c9:Cd:=sq [oM 2 (.mv (.k .nil)),oI 3 0,oI 4 0] [0] (sq [oV 10 0,oM 11 (.call 23 [.t 10,.k (.fn 24 [])]),oV 9 11,ZX 12 9 0,ZX 13 9 1,ZX 14 9 2,oV 5 12,oV 6 13,oV 7 14] [5,6,7] (.seq (sq [oV 15 7,Wn 16 15 0] [5,6,7,16] (.cond (.t 16) (sq [oV 17 6,oV 18 7,oM 2 (.mv (.k .nil)),oV 3 17,oV 4 18] [2,3,4] .ret) .skip)) (.seq (sq [oV 19 5,ZC 20 27 19,oV 8 20] [5,8] (sq [oV 21 8,Wn 22 21 0] [5,8,
 22] (.cond (.t 22) (sq [oV 23 8,oM 2 (.mv (.k .nil)),oI 3 0,oV 4 23] [2,3,4] .ret) .skip))) (sq [oV 24 5,oV 2 24,oI 3 0,oI 4 0] [2,3,4] .ret))))
def rs9:List RV:=[.t 2 false,.t 3 false,.t 4 false]
theorem k9:aF G.tab Tryz.f9 1 c9 rs9=true:=by kernel_rfl
def c12:Cd:=sq [oM 2 (.new 32 zz6),oI 3 0,oI 4 0] [0,2] (sq [oV 10 0,oM 11 (.call 32 [.t 10,.k (.fn 33 [])]),oV 9 11,ZX 12 9 0,ZX 13 9 1,ZX 14 9 2,oM 5 (.new 32 zz6),oS 4 5 12,oV 6 13,oV 7 14] [2,5,6,7] (.seq (sq [oV 15 7,Wn 16 15 0] [2,5,6,7,16] (.cond (.t 16) (sq [oM 17 (.bld zz6 []),oV 18 6,oV 19 7,oS 4 2 17,oV 3 18,oV 4 19] [2,3,4] .ret) .skip)) (.seq (sq [ZM 20 4 5,ZC 21 37 20,oV 8 21] [2,5,
 8] (.seq (.ops [oV 22 8,Wn 23 22 0] [2,5,8,23]) (.cond (.t 23) (sq [oM 24 (.bld zz6 []),oV 25 8,oS 4 2 24,oI 3 0,oV 4 25] [2,3,4] .ret) .skip))) (sq [ZM 26 4 5,oS 4 2 26,oI 3 0,oI 4 0] [2,3,4] .ret))))
def BJ:List RV:=[.c 2 4 true,.t 3 false,.t 4 false]
theorem k12:aF G.tab Tryz.f12 1 c12 BJ=true:=by kernel_rfl
def c24:Cd:=sq [oM 2 (.mv (.k .nil))] [0] (sq [oV 3 0,oV 4 0,oM 5 (.mkbd 26 [.t 4]),ZD 6 25 3 5,oV 2 6] [2] .ret)
def So:List RV:=[.t 2 false]
theorem k24:aF G.tab Tryz.f24 1 c24 So=true:=by kernel_rfl
def c33:Cd:=sq [oM 2 (.new 32 zz6)] [0,2] (sq [oV 4 0,ZC 5 34 4,oM 3 (.new 32 zz6),oS 4 3 5] [0,2,3] (.seq (sq [oV 6 0,ZC 7 35 6] [0,2,3,7] (.cond (.t 7) (.ops [oV 8 0,ZC 9 36 8] [2,3]) .skip)) (sq [ZM 10 4 3,oS 4 2 10] [2] .ret)))
def Ng:List RV:=[.c 2 4 true]
theorem k33:aF G.tab Tryz.f33 1 c33 Ng=true:=by kernel_rfl
def c25:Cd:=sq [oM 4 (.mv (.k .nil))] [0,1] (sq [oM 5 (.nilo 54 12)] [0,1,5] (.seq (.block 0 (.loop (.seq (sq [oV 6 0,ZC 7 35 6] [0,1,5,7] (.cond (.t 7) (.skip) (.exit 0))) (.block 1 (.ops [oM 8 (.mvo 5),oV 9 1,oM 10 (.callv (.t 9) []),oM 11 (.mks 54 12 [.t 10]),oM 12 (.app 54 12 216 8 (.t 11)),oM 5 (.mvo 12)] [0,1,5]))))) (sq [oV 13 5,oV 4 13] [4] .ret)))
def RL:List RV:=[.t 4 false]
theorem k25:aF G.tab Tryz.f25 2 c25 RL=true:=by kernel_rfl
def c23:CdD:=.seq (.ops [oM 4 (.new 23 [.nil]),oM 5 (.new 3 zz9),oM 6 (.new 24 zz9)] [0,1,4,5,6]) (.seq (.ops [oV 9 0,ZC 10 58 9,oV 8 10,ZX 11 8 0,ZX 12 8 1,ZX 13 8 2,oV 7 11,oS 1 5 12,oS 1 6 13] [1,4,5,6,7]) (.seq (.seq (.ops [ZL 14 1 6,Wn 15 14 0] [1,4,5,6,7,15]) (.cond (.t 15) (.seq (.drawg [(ZL 16 1 4,.calm 0 0),(ZL 17 1 5,.calm 0 1),(ZL 18 1 6,.calm 0 2),(oS 1 4 16,.act),(oS 1 5 17,.act),
 (oS 1 6 18,.act)] [4,5,6]) .ret) .skip)) (.dfr 19 59 [.t 4,.t 5,.t 6] (.seq (.ops [oV 20 1,oV 21 7,oM 22 (.bld Kv [(0,1,.t 21)]),ZB 23 103 22,oM 24 (.callv (.t 20) [.t 23]),oS 1 4 24,⟨none,.sto 1 (.t 5) (kI 0),none⟩,⟨none,.sto 1 (.t 6) (kI 0),none⟩] [4,5,6]) .ret))))
def tG:List RV:=[.c 4 1 false,.c 5 1 false,.c 6 1 false]
theorem k23:sN G.tab Tryz.f23 2 c23 tG=true:=by kernel_rfl
def c32:CdD:=.seq (.ops [oM 4 (.new 32 zz6),oM 5 (.new 3 zz9),oM 6 (.new 24 zz9)] [0,1,4,5,6]) (.seq (.ops [oV 9 0,ZC 10 58 9,oV 8 10,ZX 11 8 0,ZX 12 8 1,ZX 13 8 2,oV 7 11,oS 1 5 12,oS 1 6 13] [1,4,5,6,7]) (.seq (.seq (.ops [ZL 14 1 6,Wn 15 14 0] [1,4,5,6,7,15]) (.cond (.t 15) (.seq (.drawg [(ZM 16 4 4,.calm 0 0),(ZL 17 1 5,.calm 0 1),(ZL 18 1 6,.calm 0 2),(oS 4 4 16,.act),(oS 1 5 17,.act),
 (oS 1 6 18,.act)] [4,5,6]) .ret) (.skip))) (.dfr 19 81 [.t 4,.t 5,.t 6] (.seq (.ops [oV 20 1,oV 21 7,oM 22 (.bld Kv [(0,1,.t 21)]),ZB 23 103 22,oM 24 (.callv (.t 20) [.t 23]),oS 4 4 24,⟨none,.sto 1 (.t 5) (kI 0),none⟩,⟨none,.sto 1 (.t 6) (kI 0),none⟩] [4,5,6]) .ret))))
def uG:List RV:=[.c 4 4 true,.c 5 1 false,.c 6 1 false]
theorem k32:sN G.tab Tryz.f32 2 c32 uG=true:=by kernel_rfl
def c59:CdR:=.seq (.reg 7 [] [0,1,2,7]) (.block 0 (.seq (.ops [oM 9 (.nif false (.t 7))] [0,1,2,7,9]) (.cond (.t 9) (.ops [oV 3 7] []) (.seq (.ops [oM 10 (.tas 101 (.agg zz8) (.t 7)),ZX 11 10 1,ZX 12 10 0] [0,1,2,7,11,12]) (.cond (.t 11) (.seq (.ops [oM 4 (.new 101 zz8),oS 2 4 12] [0,1,2,4]) (.seq (.ops [oM 5 (.mv (.k .nil))] [0,1,2,4,5]) (.drawg [(oV 13 5,.free 0),(ZF 14 1 4,.free 0),(ZL 15 1 14,
 .calm 0 1),(ZF 16 0 4,.free 0),(ZL 17 1 16,.calm 0 2),(oS 1 0 13,.act),(oS 1 1 15,.act),(oS 1 2 17,.act)] []))) (.seq (.ops [oV 6 7] [6]) (.ops [oV 8 6,⟨none,.pan (.t 8),none⟩] [])))))))
theorem k59:sn G.tab Tryz.f59 3 c59=true:=by kernel_rfl
def c81:CdR:=.seq (.reg 7 [] [0,1,2,7]) (.block 0 (.seq (.ops [oM 9 (.nif false (.t 7))] [0,1,2,7,9]) (.cond (.t 9) (.ops [oV 3 7] []) (.seq (.ops [oM 10 (.tas 101 (.agg zz8) (.t 7)),ZX 11 10 1,ZX 12 10 0] [0,1,2,7,11,12]) (.cond (.t 11) (.seq (.ops [oM 4 (.new 101 zz8),oS 2 4 12] [0,1,2,4]) (.seq (.ops [oM 5 (.new 32 zz6)] [0,1,2,4,5]) (.drawg [(ZM 13 4 5,.calm 0 0),(ZF 14 1 4,.free 0),
 (ZL 15 1 14,.calm 0 1),(ZF 16 0 4,.free 0),(ZL 17 1 16,.calm 0 2),(oS 4 0 13,.act),(oS 1 1 15,.act),(oS 1 2 17,.act)] []))) (.seq (.ops [oV 6 7] [6]) (.ops [oV 8 6,⟨none,.pan (.t 8),none⟩] [])))))))
theorem k81:sn G.tab Tryz.f81 3 c81=true:=by kernel_rfl
def c37:Cd:=sq [ZB 1 32 0,oI 2 0] [1] (.seq (sq [ZM 7 4 1,ZC 8 45 7,oV 3 8] [1,3] (sq [oV 9 3,Wn 10 9 0] [1,3,10] (.cond (.t 10) (sq [oV 11 3,oV 2 11] [2] .ret) .skip))) (.seq (sq [ZF 12 3 1,ZL 13 1 12,ZN 14 13,oI 15 0] [13,14,15] (.block 0 (.loop (sq [Yl 16 15 14] [13,14,15,16] (.seq (.cond (.t 16) .skip (.exit 0)) (.seq (.block 1 (sq [ZI 17 2 13 15,ZM 18 2 17,oM 5 (.new 46 GG),oS 2 5 18] [5,
 13,14,15] (sq [ZF 19 1 5,ZL 20 1 19,ZC 21 27 20,oV 6 21] [6,13,14,15] (sq [oV 22 6,Wn 23 22 0] [6,13,14,15,23] (.cond (.t 23) (sq [oV 24 6,oV 2 24] [2] .ret) .skip))))) (.ops [Wa 25 15 1,oV 15 25] [13,14,15]))))))) (sq [oI 2 0] [2] .ret)))
def Rk:List RV:=[.t 2 false]
theorem k37:aF G.tab Tryz.f37 1 c37 Rk=true:=by kernel_rfl
def c35:Cd:=sq [oM 2 (.mv kF)] [0] (.seq (.draw [oV 3 0,ZK 4 3,ZF 5 1 4,ZL 6 1 5,oV 7 0,ZK 8 7,ZF 9 0 8,ZL 10 1 9,ZN 11 10,Yl 12 6 11,oV 2 12] [2]) .ret)
def R8:List RV:=[.t 2 false]
theorem k35:aF G.tab Tryz.f35 1 c35 R8=true:=by kernel_rfl
def c36:Cd:=.seq (sq [oV 2 0,ZC 3 35 2] [0,3] (.cond (.t 3) (.ops [oV 4 0,oV 5 0,ZK 6 5,ZF 7 1 6,ZL 8 1 7,oM 9 (.call 87 [.t 4,.k (.d (.lit (.int .i64 5))),.t 8])] [0]) (.skip))) (.ops [oV 10 0,oV 11 0,ZK 12 11,ZF 13 1 12,ZL 14 1 13,oM 15 (.call 87 [.t 10,.k (.d (.lit (.int .i64 6))),.t 14])] [])
def Rx:List RV:=[]
theorem k36:aF G.tab Tryz.f36 1 c36 Rx=true:=by kernel_rfl
def c87:Cd:=sq [oI 6 0] [0,1,2,6] (.seq (sq [oV 8 0,ZK 9 8,ZF 10 0 9,ZL 11 1 10,ZN 12 11,oV 7 12] [0,1,2,6,7] (sq [oV 13 7,Wg 14 13 0] [0,1,2,6,7,14] (.cond (.t 14) (.ops [oV 15 0,ZK 16 15,ZF 17 0 16,ZL 18 1 17,oV 19 2,oV 20 7,Ws 21 20 1,oM 22 (.mx false (.t 19) (.t 21)),ZI 23 4 18 22,ZF 24 3 23,ZL 25 1 24,oV 6 25] [1,6]) .skip))) (.ops [oV 26 1,oV 27 6,oM 28 (.bld zz8 [(0,1,.t 26),(1,1,.t 27)]),
 oM 29 (.mki 101 (.t 28)),⟨none,.pan (.t 29),none⟩] []))
def PC:List RV:=[]
theorem k87:aF G.tab Tryz.f87 3 c87 PC=true:=by kernel_rfl
def c175:Cd:=sq [oM 6 (.mv kF)] [0,1,2] (.seq (.draw [oV 7 0,ZC 8 35 7,oV 9 8,oG 10 9 (.mv (.t 0)),oG 11 9 (zK 10),oG 12 9 (zF 0 11),oG 13 9 (zL 1 12),oG 14 9 (.mv (.t 0)),oG 15 9 (zK 14),oG 16 9 (zF 1 15),oG 17 9 (zL 1 16),oG 18 9 (zI 4 13 17),oG 19 9 (zF 0 18),oG 20 9 (zL 1 19),oG 21 9 (.mv (.t 1)),oG 22 9 (ye 20 21),ZQ 23 9 22,oV 24 23,oG 25 24 (.mv (.t 0)),oG 26 24 (zK 25),oG 27 24 (zF 0 26),
 oG 28 24 (zL 1 27),oG 29 24 (.mv (.t 0)),oG 30 24 (zK 29),oG 31 24 (zF 1 30),oG 32 24 (zL 1 31),oG 33 24 (zI 4 28 32),oG 34 24 (zF 2 33),oG 35 24 (zL 1 34),oG 36 24 (.mv (.t 2)),oG 37 24 (ye 35 36),ZQ 38 24 37,oV 6 38] [6]) .ret)
def Pf:List RV:=[.t 6 false]
theorem PY:aF G.tab Tryz.f175 3 c175 Pf=true:=by kernel_rfl
def Om:Cd:=sq [oM 6 (.mv kF)] [0,1,2] (sq [oV 8 0,oV 9 1,oV 10 2,ZE 11 175 8 9 10,oV 7 11] [0,7] (.seq (sq [oV 12 7] [0,7,12] (.cond (.t 12) (.ops [oV 13 0,ZK 14 13,ZF 15 1 14,ZL 16 1 15,Wa 17 16 1,ZK 18 13,ZF 19 1 18,oS 1 19 17] [7]) (.skip))) (sq [oV 20 7,oV 6 20] [6] .ret)))
def Nr:List RV:=[.t 6 false]
theorem P5:aF G.tab Tryz.f117 3 Om Nr=true:=by kernel_rfl
def c60:Cd:=sq [oM 4 (.mv kF)] [0,1] (sq [oV 5 0,oV 6 1,oM 7 (.call 117 [.t 5,.k (.d (.lit (.int .i64 2))),.t 6]),oV 4 7] [4] .ret)
def Q3:List RV:=[.t 4 false]
theorem k60:aF G.tab Tryz.f60 2 c60 Q3=true:=by kernel_rfl
def MA:Cd:=sq [oM 4 (.mv kF)] [0,1] (sq [oV 5 0,oV 6 1,oM 7 (.call 117 [.t 5,.k (.d (.lit (.int .i64 4))),.t 6]),oV 4 7] [4] .ret)
def KT:List RV:=[.t 4 false]
theorem RJ:aF G.tab Tryz.f121 2 MA KT=true:=by kernel_rfl
def c84:Cd:=sq [oV 4 0,oV 5 1,ZD 6 121 4 5,ZU 7 6] [0,7] (.cond (.t 7) (.ops [oV 8 0,ZC 9 36 8] []) .skip)
def QZ:List RV:=[]
theorem k84:aF G.tab Tryz.f84 2 c84 QZ=true:=by kernel_rfl
def c82:Cd:=sq [oV 4 0,oV 5 1,ZD 6 60 4 5,ZU 7 6] [0,7] (.cond (.t 7) (.ops [oV 8 0,ZC 9 36 8] []) .skip)
def PF:List RV:=[]
theorem k82:aF G.tab Tryz.f82 2 c82 PF=true:=by kernel_rfl
def KJ:Cd:=sq [oM 4 (.new 121 zz2)] [0,1,4] (.seq (.seq (.draw [oV 5 0,ZC 6 35 5,ZU 7 6,oV 8 7,oH 9 8 (.mv (.t 0)),oH 10 8 (zK 9),oH 11 8 (zF 0 10),oH 12 8 (zL 1 11),oH 13 8 (.mv (.t 0)),oH 14 8 (zK 13),oH 15 8 (zF 1 14),oH 16 8 (zL 1 15),oH 17 8 (zI 4 12 16),oH 18 8 (zF 0 17),oH 19 8 (zL 1 18),oH 20 8 (.mv (.t 1)),oH 21 8 (yn 19 20),ZP 22 8 21] [0,4,22]) (.cond (.t 22) (.ops [oV 23 0,
 ZC 24 36 23] [0,4]) .skip)) (sq [oV 25 0,ZK 26 25,ZF 27 1 26,ZL 28 1 27,Wa 29 28 1,ZK 30 25,ZF 31 1 30,oS 1 31 29] [0,4] (.seq (.drawg [(oV 32 0,.free 0),(ZK 33 32,.free 0),(ZF 34 0 33,.free 0),(ZL 35 1 34,.calm 0 0),(oV 36 0,.free 0),(ZK 37 36,.free 0),(ZF 38 1 37,.free 0),(ZL 39 1 38,.calm 0 0),(Ws 40 39 1,.free 0),(ZI 41 4 35 40,.free 0),(ZM 42 4 41,.calm 0 0),(oS 4 4 42,.act)] [4]) .ret)))
def Ie:List RV:=[.c 4 4 true]
theorem PI:aF G.tab Tryz.f139 2 KJ Ie=true:=by kernel_rfl
def c83:Cd:=sq [oM 2 (.mv (kS ⟨#[]⟩))] [0] (sq [oV 3 0,oM 4 (.call 139 [.t 3,.k (.d (.lit (.int .i64 1)))]),oM 5 (.fld 2 1 false (.t 4)),oV 2 5] [2] .ret)
def Mh:List RV:=[.t 2 false]
theorem k83:aF G.tab Tryz.f83 1 c83 Mh=true:=by kernel_rfl
def LC:Cd:=sq [oI 2 0] [0] (sq [oV 3 0,oM 4 (.call 139 [.t 3,.k (.d (.lit (.int .i64 3)))]),oM 5 (.fld 1 1 false (.t 4)),oV 2 5] [2] .ret)
def IJ:List RV:=[.t 2 false]
theorem Ry:aF G.tab Tryz.f177 1 LC IJ=true:=by kernel_rfl
def MQ:Cd:=sq [oM 2 (.new 50 zz0)] [0,2] (.seq (.drawg [(oV 7 0,.free 0),(ZK 8 7,.free 0),(ZF 9 0 8,.free 0),(ZL 10 1 9,.calm 0 1),(oV 11 0,.free 0),(ZK 12 11,.free 0),(ZF 13 1 12,.free 0),(ZL 14 1 13,.calm 0 1),(ZD 15 176 10 14,.calm 0 1),(oV 6 15,.free 0),(ZX 16 6 0,.free 0),(ZX 17 6 1,.free 0),(ZX 18 6 2,.free 0),(oM 3 (.new 50 zz0),.act),(oS 4 3 16,.act),(oV 4 17,.free 2),(oV 5 18,
 .free 2)] [0,2,3,4,5]) (.seq (sq [oV 19 5] [0,2,3,4,5,19] (.block 0 (sq [We 24 19 0,oV 23 24] [0,2,3,4,5,19,23] (.cond (.t 23) (.ops [oV 25 0,oV 26 4,ZK 27 25,ZF 28 1 27,oS 1 28 26] [2,3]) (.seq (sq [We 30 19 5,oV 29 30] [0,2,3,4,5,19,29] (.cond (.t 29) .skip (sq [We 31 19 3,oV 29 31] [0,2,3,4,5,19,29] (.cond (.t 29) .skip (.ops [We 32 19 6,oV 29 32] [0,2,3,4,5,
 29]))))) (.cond (.t 29) (.ops [oV 33 0,oV 34 5,oV 35 4,ZE 36 87 33 34 35] [2,3]) (.ops [oV 20 5,oM 21 (.bld zz8 [(0,1,.t 20),(1,1,.k (.d (.lit (.int .i64 0))))]),oM 22 (.mki 101 (.t 21)),⟨none,.pan (.t 22),none⟩] [2,3]))))))) (sq [ZM 37 4 3,oS 4 2 37] [2] .ret)))
def zw:List RV:=[.c 2 4 true]
theorem Qd:aF G.tab Tryz.f118 1 MQ zw=true:=by kernel_rfl
def Lz:Cd:=sq [oM 2 (.mv (kS ⟨#[]⟩))] [0] (sq [oV 4 0,ZC 5 83 4,oV 3 5] [0,3] (.seq (sq [oV 6 0,oM 7 (.call 121 [.t 6,.k (.d (.lit (.string ⟨#[91]⟩)))])] [0,3,7] (.cond (.t 7) (sq [oV 8 3,oV 9 0,ZC 10 177 9,ZC 11 159 10,oM 12 (.bin .add (kS ⟨#[91]⟩) (.t 11)),oM 13 (.bin .add (.t 12) (kS ⟨#[93]⟩)),Ya 14 8 13,oV 3 14] [0,3] (.ops [oV 15 0,oM 16 (.call 84 [.t 15,
 .k (.d (.lit (.string ⟨#[93]⟩)))])] [3])) .skip)) (sq [oV 17 3,oV 2 17] [2] .ret)))
def NM:List RV:=[.t 2 false]
theorem Qu:aF G.tab Tryz.f119 1 Lz NM=true:=by kernel_rfl
def Pt:Cd:=sq [oM 2 (.mv (.k .nil))] [0] (sq [oV 4 0,ZC 5 119 4,oM 6 (.mkso 9 1 [.t 5]),oM 3 (.mvo 6)] [0,3] (.seq (.block 0 (.loop (.seq (sq [oV 7 0,oM 8 (.call 121 [.t 7,.k (.d (.lit (.string ⟨#[44]⟩)))])] [0,3,8] (.cond (.t 8) .skip (.exit 0))) (.block 1 (.ops [oM 9 (.mvo 3),oV 10 0,ZC 11 119 10,oM 12 (.mks 9 1 [.t 11]),oM 13 (.app 9 1 16 9 (.t 12)),oM 3 (.mvo 13)] [0,3]))))) (sq [oV 14 3,
 oV 2 14] [2] .ret)))
def NR:List RV:=[.t 2 false]
theorem Qa:aF G.tab Tryz.f122 1 Pt NR=true:=by kernel_rfl
def Mv:Cd:=sq [oM 2 (.new 56 zz5)] [0,2] (sq [oM 3 (.new 56 zz5)] [0,2,3] (sq [oV 4 0,ZC 5 177 4,ZF 6 0 3,oS 1 6 5] [0,2,3] (sq [ZF 7 0 3,ZL 8 1 7,ZF 9 1 3,oS 1 9 8] [0,2,3] (.seq (sq [oV 10 0,oM 11 (.call 121 [.t 10,.k (.d (.lit (.string ⟨#[46,46]⟩)))])] [0,2,3,11] (.cond (.t 11) (.ops [oV 12 0,ZC 13 177 12,ZF 14 1 3,oS 1 14 13] [0,2,3]) (.skip))) (sq [oV 15 0,oM 16 (.call 121 [.t 15,
 .k (.d (.lit (.string ⟨#[58,61]⟩)))]),ZF 17 3 3,oS 1 17 16] [0,2,3] (.seq (sq [ZF 18 3 3,ZL 19 1 18,ZU 20 19] [0,2,3,20] (.cond (.t 20) (.ops [oV 21 0,oM 22 (.call 84 [.t 21,.k (.d (.lit (.string ⟨#[58,47]⟩)))])] [0,2,3]) .skip)) (sq [oV 23 0,ZC 24 177 23,ZF 25 2 3,oS 1 25 24] [2,3] (sq [ZM 26 4 3,oS 4 2 26] [2] .ret))))))))
def Ix:List RV:=[.c 2 4 true]
theorem P1:aF G.tab Tryz.f120 1 Mv Ix=true:=by kernel_rfl
def c62:Cd:=sq [oM 2 (.new 54 zz1)] [0,2] (sq [oV 4 0,ZC 5 119 4,oM 6 (.bld zz1 [(0,1,.k (.d (.lit (.int .i64 3)))),(5,1,.t 5)]),oM 3 (.new 54 zz1),oS 12 3 6] [0,2,3] (sq [oV 7 0,oM 8 (.call 84 [.t 7,.k (.d (.lit (.string ⟨#[123]⟩)))])] [0,2,3] (.seq (.raw [ZF 9 7 3,oM 10 (.ldo (.t 9)),oV 11 0,ZC 12 120 11,oM 13 (.mks 56 4 [.t 12]),oM 14 (.app 56 4 32 10 (.t 13)),ZF 15 7 3,⟨none,.stoo (.t 15) 14,
 none⟩] [[],[0],[],[2],[3],[1,4,3],[0,1,2,3,4,5],[6,5,5,0,1,2,3,4,5]] [0,2,3]) (.seq (.block 0 (.loop (.seq (sq [oV 16 0,oM 17 (.call 121 [.t 16,.k (.d (.lit (.string ⟨#[44]⟩)))])] [0,2,3,17] (.cond (.t 17) .skip (.exit 0))) (.block 1 (.raw [ZF 18 7 3,oM 19 (.ldo (.t 18)),oV 20 0,ZC 21 120 20,oM 22 (.mks 56 4 [.t 21]),oM 23 (.app 56 4 32 19 (.t 22)),ZF 24 7 3,⟨none,.stoo (.t 24) 23,none⟩] [[],[0],
 [],[2],[3],[1,4,3],[0,1,2,3,4,5],[6,5,5,0,1,2,3,4,5]] [0,2,3]))))) (sq [oV 25 0,oM 26 (.call 84 [.t 25,.k (.d (.lit (.string ⟨#[125]⟩)))])] [0,2,3] (sq [oV 27 0,oM 28 (.call 84 [.t 27,.k (.d (.lit (.string ⟨#[59]⟩)))])] [2,3] (sq [ZM 29 12 3,oS 12 2 29] [2] .ret)))))))
def F8:List RV:=[.c 2 12 true]
theorem k62:aF G.tab Tryz.f62 1 c62 F8=true:=by kernel_rfl
def c63:Cd:=sq [oM 2 (.new 54 zz1)] [0,2] (sq [oV 4 0,oM 5 (.call 84 [.t 4,.k (.d (.lit (.string ⟨#[40]⟩)))])] [0,2] (sq [oV 6 0,ZC 7 118 6,oM 8 (.bld zz1 [(0,1,.k (.d (.lit (.int .i64 4)))),(1,4,.t 7)]),oM 3 (.new 54 zz1),oS 12 3 8] [0,2,3] (sq [oV 9 0,oM 10 (.call 84 [.t 9,.k (.d (.lit (.string ⟨#[41]⟩)))])] [0,2,3] (sq [oV 11 0,ZC 12 86 11,ZF 13 8 3,oS 1 13 12] [0,2,3] (.seq (sq [oV 14 0,
 oM 15 (.call 60 [.t 14,.k (.d (.lit (.string ⟨#[101,108,115,101]⟩)))])] [0,2,3,15] (.cond (.t 15) (.ops [oV 16 0,ZC 17 86 16,ZF 18 9 3,oS 1 18 17] [2,3]) .skip)) (sq [ZM 19 12 3,oS 12 2 19] [2] .ret))))))
def JV:List RV:=[.c 2 12 true]
theorem k63:aF G.tab Tryz.f63 1 c63 JV=true:=by kernel_rfl
def c64:Cd:=sq [oM 2 (.new 54 zz1)] [0,2] (sq [oV 4 0,ZC 5 83 4,oM 6 (.bld zz1 [(0,1,.k (.d (.lit (.int .i64 5)))),(6,1,.t 5)]),oM 3 (.new 54 zz1),oS 12 3 6] [0,2,3] (sq [oV 7 0,oM 8 (.call 82 [.t 7,.k (.d (.lit (.string ⟨#[105,110]⟩)))])] [0,2,3] (sq [oV 9 0,ZC 10 83 9,ZF 11 5 3,oS 1 11 10] [0,2,3] (sq [oV 12 0,ZC 13 86 12,ZF 14 8 3,oS 1 14 13] [2,3] (sq [ZM 15 12 3,oS 12 2 15] [2] .ret)))))
def L1:List RV:=[.c 2 12 true]
theorem k64:aF G.tab Tryz.f64 1 c64 L1=true:=by kernel_rfl
def c65:Cd:=sq [oM 2 (.new 54 zz1)] [0,2] (sq [oV 4 0,ZC 5 122 4,oM 6 (.bld zz1 [(0,1,.k (.d (.lit (.int .i64 6)))),(10,1,.t 5)]),oM 3 (.new 54 zz1),oS 12 3 6] [0,2,3] (sq [oV 7 0,oM 8 (.call 82 [.t 7,.k (.d (.lit (.string ⟨#[98,101,102,111,114,101]⟩)))])] [0,2,3] (sq [oV 9 0,ZC 10 122 9,ZF 11 11 3,oS 1 11 10] [0,2,3] (sq [oV 12 0,oM 13 (.call 84 [.t 12,.k (.d (.lit (.string ⟨#[59]⟩)))])] [2,
 3] (sq [ZM 14 12 3,oS 12 2 14] [2] .ret)))))
def MZ:List RV:=[.c 2 12 true]
theorem k65:aF G.tab Tryz.f65 1 c65 MZ=true:=by kernel_rfl
def c61:Cd:=sq [oM 4 (.new 54 zz1)] [0,1,4] (sq [oV 6 1,oV 7 0,ZC 8 118 7,oM 9 (.bld zz1 [(0,1,.t 6),(1,4,.t 8)]),oM 5 (.new 54 zz1),oS 12 5 9] [0,4,5] (sq [oV 10 0,oM 11 (.call 84 [.t 10,.k (.d (.lit (.string ⟨#[59]⟩)))])] [4,5] (sq [ZM 12 12 5,oS 12 4 12] [4] (.ret))))
def Mt:List RV:=[.c 4 12 true]
theorem k61:aF G.tab Tryz.f61 2 c61 Mt=true:=by kernel_rfl
def c26:Cd:=sq [oM 2 (.new 54 zz1)] [0,2] (.seq (.block 0 (sq [oV 4 0,oM 5 (.call 60 [.t 4,.k (.d (.lit (.string ⟨#[115,111,102,116]⟩)))]),oV 3 5] [0,2,3] (.cond (.t 3) (sq [oV 6 0,oM 7 (.call 61 [.t 6,.k (.d (.lit (.int .i64 2)))]),oS 12 2 7] [2] .ret) (sq [oV 9 0,oM 10 (.call 60 [.t 9,.k (.d (.lit (.string ⟨#[100,105,115,116]⟩)))]),oV 8 10] [0,2,8] (.cond (.t 8) (sq [oV 11 0,ZC 12 62 11,
 oS 12 2 12] [2] .ret) (sq [oV 14 0,oM 15 (.call 60 [.t 14,.k (.d (.lit (.string ⟨#[105,102]⟩)))]),oV 13 15] [0,2,13] (.cond (.t 13) (sq [oV 16 0,ZC 17 63 16,oS 12 2 17] [2] .ret) (sq [oV 19 0,oM 20 (.call 60 [.t 19,.k (.d (.lit (.string ⟨#[101,97,99,104]⟩)))]),oV 18 20] [0,2,18] (.cond (.t 18) (sq [oV 21 0,ZC 22 64 21,oS 12 2 22] [2] .ret) (sq [oV 24 0,oM 25 (.call 60 [.t 24,
 .k (.d (.lit (.string ⟨#[115,111,108,118,101]⟩)))]),oV 23 25] [0,2,23] (.cond (.t 23) (sq [oV 26 0,ZC 27 65 26,oS 12 2 27] [2] .ret) .skip))))))))))) (sq [oV 28 0,oM 29 (.call 61 [.t 28,.k (.d (.lit (.int .i64 1)))]),oS 12 2 29] [2] .ret))
def IZ:List RV:=[.c 2 12 true]
theorem k26:aF G.tab Tryz.f26 1 c26 IZ=true:=by kernel_rfl
def c86:Cd:=sq [oM 2 (.mv (.k .nil))] [0] (sq [oV 4 0,oM 5 (.call 84 [.t 4,.k (.d (.lit (.string ⟨#[123]⟩)))])] [0] (sq [oM 3 (.nilo 54 12)] [0,3] (.seq (.block 0 (.loop (.seq (sq [oV 6 0,oM 7 (.call 121 [.t 6,.k (.d (.lit (.string ⟨#[125]⟩)))]),ZU 8 7] [0,3,8] (.cond (.t 8) .skip (.exit 0))) (.block 1 (.ops [oM 9 (.mvo 3),oV 10 0,ZC 11 26 10,oM 12 (.mks 54 12 [.t 11]),
 oM 13 (.app 54 12 216 9 (.t 12)),oM 3 (.mvo 13)] [0,3]))))) (sq [oV 14 3,oV 2 14] [2] .ret))))
def Ro:List RV:=[.t 2 false]
theorem k86:aF G.tab Tryz.f86 1 c86 Ro=true:=by kernel_rfl
def Ln:Cd:=sq [oI 2 0] [0] (.seq (sq [oV 4 0,oM 5 (.call 121 [.t 4,.k (.d (.lit (.string ⟨#[91]⟩)))]),ZU 6 5] [0,6] (.cond (.t 6) (sq [oI 2 0] [2] (.ret)) .skip)) (sq [oV 7 0,ZC 8 177 7,oV 3 8] [0,3] (.seq (sq [oV 9 3,Wl 10 9 1] [0,3,10] (.cond (.t 10) (.ops [oV 11 0,oV 12 0,ZK 13 12,ZF 14 1 13,ZL 15 1 14,Ws 16 15 1,oM 17 (.call 87 [.t 11,.k (.d (.lit (.int .i64 5))),.t 16])] [0,
 3]) .skip)) (sq [oV 18 0,oM 19 (.call 84 [.t 18,.k (.d (.lit (.string ⟨#[93]⟩)))])] [3] (sq [oV 20 3,oV 2 20] [2] .ret)))))
def Ou:List RV:=[.t 2 false]
theorem Qx:aF G.tab Tryz.f198 1 Ln Ou=true:=by kernel_rfl
def Ot:Cd:=sq [oM 4 (.new 74 zz7)] [0,1,4] (sq [oV 6 0,ZC 7 83 6,oV 8 1,oM 9 (.bld zz7 [(0,1,.t 7),(3,1,.t 8)]),oM 5 (.new 74 zz7),oS 5 5 9] [0,1,4,5] (.seq (.ops [oV 10 0,ZC 11 198 10,ZF 12 2 5,oS 1 12 11] [0,1,4,5]) (sq [oV 13 0,oM 14 (.call 84 [.t 13,.k (.d (.lit (.string ⟨#[58]⟩)))])] [0,1,4,5] (sq [oV 15 0,ZC 16 177 15,ZF 17 1 5,oS 1 17 16] [0,1,4,5] (.seq (sq [oV 18 1,We 19 18 0] [0,4,5,
 19] (.cond (.t 19) (sq [oV 20 0,oM 21 (.call 84 [.t 20,.k (.d (.lit (.string ⟨#[61]⟩)))])] [0,4,5] (.ops [oV 22 0,ZC 23 177 22,ZF 24 4 5,oS 1 24 23] [0,4,5])) (.skip))) (sq [oV 25 0,oM 26 (.call 84 [.t 25,.k (.d (.lit (.string ⟨#[59]⟩)))])] [4,5] (sq [ZM 27 5 5,oS 5 4 27] [4] .ret)))))))
def FA:List RV:=[.c 4 5 true]
theorem Qn:aF G.tab Tryz.f140 2 Ot FA=true:=by kernel_rfl
def c85:Cd:=sq [oM 2 (.mv (.k .nil))] [0] (sq [oM 3 (.nilo 74 5)] [0,3] (.block 0 (.loop (.block 1 (.block 2 (sq [oV 6 0,oM 7 (.call 60 [.t 6,.k (.d (.lit (.string ⟨#[114,97,110,100]⟩)))]),oV 5 7] [0,3,5] (.cond (.t 5) (.ops [oM 8 (.mvo 3),oV 9 0,oM 10 (.call 140 [.t 9,.k (.d (.lit (.int .i64 1)))]),oM 11 (.mks 74 5 [.t 10]),oM 12 (.app 74 5 48 8 (.t 11)),oM 3 (.mvo 12)] [0,3]) (sq [oV 14 0,
 oM 15 (.call 60 [.t 14,.k (.d (.lit (.string ⟨#[114,97,110,100,99]⟩)))]),oV 13 15] [0,3,13] (.cond (.t 13) (.ops [oM 16 (.mvo 3),oV 17 0,oM 18 (.call 140 [.t 17,.k (.d (.lit (.int .i64 2)))]),oM 19 (.mks 74 5 [.t 18]),oM 20 (.app 74 5 48 16 (.t 19)),oM 3 (.mvo 20)] [0,3]) (sq [oV 22 0,oM 23 (.call 60 [.t 22,.k (.d (.lit (.string ⟨#[115,116,97,116,101]⟩)))]),oV 21 23] [0,3,
 21] (.cond (.t 21) (.ops [oM 24 (.mvo 3),oV 25 0,oM 26 (.call 140 [.t 25,.k (.d (.lit (.int .i64 0)))]),oM 27 (.mks 74 5 [.t 26]),oM 28 (.app 74 5 48 24 (.t 27)),oM 3 (.mvo 28)] [0,3]) (sq [oV 4 3,oV 2 4] [2] .ret))))))))))))
def Qj:List RV:=[.t 2 false]
theorem k85:aF G.tab Tryz.f85 1 c85 Qj=true:=by kernel_rfl
def c34:Cd:=sq [oM 2 (.new 32 zz6)] [0,2] (sq [oV 5 0,oM 6 (.call 82 [.t 5,.k (.d (.lit (.string ⟨#[99,108,97,115,115]⟩)))])] [0,2] (sq [oV 7 0,ZC 8 83 7,oM 9 (.bld zz6 [(0,1,.t 8)]),oM 3 (.new 32 zz6),oS 4 3 9] [0,2,3] (.seq (sq [oV 10 0,oM 11 (.call 60 [.t 10,.k (.d (.lit (.string ⟨#[101,120,116,101,110,100,115]⟩)))])] [0,2,3,11] (.cond (.t 11) (.ops [oV 12 0,ZC 13 83 12,ZF 14 1 3,
 oS 1 14 13] [0,2,3]) .skip)) (sq [oV 15 0,oM 16 (.call 84 [.t 15,.k (.d (.lit (.string ⟨#[123]⟩)))])] [0,2,3] (sq [oV 17 0,ZC 18 85 17,ZF 19 2 3,oS 1 19 18] [0,2,3] (.seq (.block 0 (.loop (.seq (sq [oV 20 0,oM 21 (.call 60 [.t 20,.k (.d (.lit (.string ⟨#[99,111,110,115,116,114,97,105,110,116]⟩)))])] [0,2,3,21] (.cond (.t 21) .skip (.exit 0))) (.block 1 (sq [oV 22 0,ZC 23 83 22,
 oM 24 (.bld GG [(0,1,.t 23)]),oM 4 (.new 46 GG),oS 2 4 24] [0,2,3,4] (sq [oV 25 0,ZC 26 86 25,ZF 27 1 4,oS 1 27 26] [0,2,3,4] (.ops [ZF 28 3 3,oM 29 (.ldo (.t 28)),ZM 30 2 4,oM 31 (.mks 46 2 [.t 30]),oM 32 (.app 46 2 40 29 (.t 31)),ZF 33 3 3,⟨none,.stoo (.t 33) 32,none⟩] [0,2,3]))))))) (sq [oV 34 0,oM 35 (.call 84 [.t 34,.k (.d (.lit (.string ⟨#[125]⟩)))])] [2,3] (sq [ZM 36 4 3,
 oS 4 2 36] [2] .ret))))))))
def OE:List RV:=[.c 2 4 true]
theorem k34:aF G.tab Tryz.f34 1 c34 OE=true:=by kernel_rfl
def c8:Cd:=sq [oM 0 (.mv kF)] [] (sq [oM 11 (.call 12 [.k (.d (.lit (.string ⟨#[99,108,97,115,115,32,112,32,123,32,114,97,110,100,32,97,32,58,32,50,59,32,99,111,110,115,116,114,97,105,110,116,32,99,32,123,32,97,32,60,32,51,59,32,115,111,102,116,32,97,32,61,61,32,49,59,32,125,32,125]⟩)))]),oV 10 11,ZX 12 10 0,ZX 13 10 1,ZX 14 10 2,oM 1 (.new 32 zz6),oS 4 1 12,oV 2 13,oV 3 14] [1,2,
 3] (sq [oM 16 (.call 9 [.k (.d (.lit (.string ⟨#[100,105,115,116,32,97,32,123,32,48,32,58,61,32,50,44,32,49,32,46,46,32,51,32,58,47,32,54,32,125,59]⟩)))]),oV 15 16,ZX 17 15 0,ZX 18 15 1,ZX 19 15 2,oV 4 17,oV 5 18,oV 6 19] [1,2,3,4,5,6] (sq [oM 21 (.call 9 [.k (.d (.lit (.string ⟨#[97,32,60]⟩)))]),oV 20 21,ZX 22 20 0,ZX 23 20 1,ZX 24 20 2,oV 7 22,oV 8 23,oV 9 24] [1,2,3,4,5,6,8,9] (sq [ZF 25 2 1,
 ZL 26 1 25,ZN 27 26,We 28 27 1,oV 29 28,oG 30 29 (zF 3 1),oG 31 29 (zL 1 30),oG 32 29 (zN 31),oG 33 29 (we 32 1),ZQ 34 29 33,oV 35 34,oG 36 35 (zF 3 1),oG 37 35 (zL 1 36),oG 38 35 (.ia 2 (.t 37) (kI 0)),oG 39 35 (zF 1 38),oG 40 35 (zL 1 39),oG 41 35 (zN 40),oG 42 35 (we 41 2),ZQ 43 35 42,oV 44 43,oG 45 44 (.mv (.t 2)),oG 46 44 (we 45 0),ZQ 47 44 46,oV 48 47,oG 49 48 (.mv (.t 3)),
 oG 50 48 (we 49 0),ZQ 51 48 50,oV 52 51,oG 53 52 (.mv (.t 4)),oG 54 52 (zN 53),oG 55 52 (we 54 1),ZQ 56 52 55,oV 57 56,oG 58 57 (.mv (.t 4)),oG 59 57 (.ia 12 (.t 58) (kI 0)),oG 60 57 (zF 7 59),oG 61 57 (zL 1 60),oG 62 57 (zN 61),oG 63 57 (we 62 2),ZQ 64 57 63,oV 65 64,oG 66 65 (.mv (.t 4)),oG 67 65 (.ia 12 (.t 66) (kI 0)),oG 68 65 (zF 7 67),oG 69 65 (zL 1 68),oG 70 65 (.ia 4 (.t 69) (kI 1)),
 oG 71 65 (zM 4 70),⟨some 72,.bld zz5 [(0,1,.k (.d (.lit (.int .i64 1)))),(1,1,.k (.d (.lit (.int .i64 3)))),(2,1,.k (.d (.lit (.int .i64 6))))],(some (65,true))⟩,⟨some 73,.eqa false 56 [.i .i64,.i .i64,.i .i64,.b] (.t 71) (.t 72),(some (65,true))⟩,ZQ 74 65 73,oV 75 74,oG 76 75 (.mv (.t 5)),oG 77 75 (we 76 0),ZQ 78 75 77,oV 79 78,oG 80 79 (.mv (.t 6)),oG 81 79 (we 80 0),ZQ 82 79 81,oV 83 82,
 oG 84 83 (.mv (.t 8)),oG 85 83 (we 84 1),ZQ 86 83 85,oV 87 86,oG 88 87 (.mv (.t 9)),oG 89 87 (we 88 6),ZQ 90 87 89,oV 0 90] [0] .ret))))
def rs8:List RV:=[.t 0 false]
theorem k8:aF G.tab Tryz.f8 0 c8 rs8=true:=by kernel_rfl
def c21:Cd:=sq [ZB 1 32 0,oM 2 (.mv kF)] [1] (.seq (sq [ZM 4 4 1,ZC 5 45 4,Wn 6 5 0] [1,6] (.cond (.t 6) (.seq (.ops [oM 2 (.mv kF)] [2]) .ret) .skip)) (.seq (sq [oI 3 0] [1,3] (.block 0 (.loop (.seq (sq [oV 7 3,ZF 8 3 1,ZL 9 1 8,ZN 10 9,Yl 11 7 10] [1,3,11] (.cond (.t 11) .skip (.exit 0))) (.seq (.block 1 (sq [ZF 14 3 1,ZL 15 1 14,oV 16 3,ZI 17 2 15 16,ZF 18 1 17,ZL 19 1 18,ZC 20 27 19,
 Wn 21 20 0] [1,3,21] (.cond (.t 21) (sq [oM 2 (.mv kF)] [2] .ret) .skip))) (.ops [oV 12 3,Wa 13 12 1,oV 3 13] [1,3])))))) (sq [oM 2 (.mv kT)] [2] .ret)))
def c3:Cd:=sq [oM 2 (.mv kF)] [0] (.seq (sq [oV 9 0,oM 10 (.len true (.t 9)),Wg 11 10 1500] [0,11] (.cond (.t 11) (sq [oM 12 (.call 8 []),oV 2 12] [2] (.ret)) .skip)) (sq [oV 14 0,ZC 15 9 14,oV 13 15,ZX 16 13 0,ZX 17 13 1,ZX 18 13 2,oV 3 16,oV 4 17,oV 5 18] [0,3,4,5] (sq [oV 20 0,ZC 21 10 20,oV 19 21,ZX 22 19 0,ZX 23 19 1,ZX 24 19 2,oV 6 22,oV 7 23,oV 8 24] [3,4,5,6,7,8] (sq [oV 25 3,oV 26 6,
 ZD 27 11 25 26,oV 28 27,oG 29 28 (.mv (.t 4)),oG 30 28 (.mv (.t 7)),oG 31 28 (ye 29 30),ZQ 32 28 31,oV 33 32,oG 34 33 (.mv (.t 5)),oG 35 33 (.mv (.t 8)),oG 36 33 (ye 34 35),ZQ 37 33 36,oV 38 37,oG 39 38 (.call 8 []),ZQ 40 38 39,oV 2 40] [2] .ret))))
def rs3:List RV:=[.t 2 false]
theorem k3:aF G.tab Tryz.f3 1 c3 rs3=true:=by kernel_rfl
end Go.Proofs.YtnhphlmblenapaaGreatDoor
