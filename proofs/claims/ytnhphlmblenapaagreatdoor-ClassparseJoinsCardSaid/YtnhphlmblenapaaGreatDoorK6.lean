import Derived.Test.YtnhphlmblenapaaGreatDoorPu
set_option linter.unusedVariables false
set_option linter.unusedSimpArgs false
set_option linter.unusedSectionVars false
set_option maxRecDepth 100000
open List renaming suffix_refl->Pa,length_singleton->Pb,length_nil->Pd,length->Pe,length_append->Pf
open Nat renaming le_refl->Pg,le_of_lt->Ph,zero_add->Pi,le_total->Pj
namespace Go.Proofs.YtnhphlmblenapaaGreatDoor
open Go.RowKit
inductive CP(α:Type) where
 | out
 | bad (e n:Int)
 | ok (v:α) (r:List Tok)
section
variable {α β : Type}
def CP.bind(x:CP α)(f:α->List Tok->CP β):CP β:=match x with
 | .out=>.out
 | .bad e n=>.bad e n
 | .ok v r=>f v r
def lnR(z:Int):List Tok->Int
 | []=>z
 | t::_=>t.line
def gV(z:Int):List Tok->CP α
 | []=>.bad 6 z
 | t::_=>.bad 5 t.line
def bJ(z:Int)(m:ByteArray)(r:List Tok)(k:List Tok->CP α):CP α:=match acc m r with
 | some r1=>k r1
 | none=>gV z r
def cW(z:Int)(r:List Tok)(k:ByteArray->List Tok->CP α):CP α:=match bD r with
 | some p=>k p.1 p.2
 | none=>gV z r
def fD(z:Int)(r:List Tok)(k:Int->List Tok->CP α):CP α:=match cm r with
 | some p=>k p.1 p.2
 | none=>gV z r
def ep(m:ByteArray)(r:List Tok)(y:List Tok->CP α)(n:CP α):CP α:=match acc m r with
 | some r1=>y r1
 | none=>n
def exC(z:Int)(r:List Tok)(k:Ex->List Tok->CP α):CP α:=match par .W r with
 | .out=>.out
 | .bad c q=>.bad c (lnR z q)
 | .ok e q=>if bU e=0 then k e q else .bad (bU e) 0
def iG(f:α->List Tok->Option (CP α)):Nat->α->List Tok->CP α
 | 0,_,_=>.out
 | n+1,a,r=>match f a r with
  | none=>.ok a r
  | some x=>x.bind fun v q=>iG f n v q
def bY(f:α->List Tok->Option (CP α))(a:α)(r:List Tok):CP α:=iG f (r.length+1) a r
end
def exZ:Ex:=.mk 0 0 ⟨#[]⟩ []
def eP(z:Int)(r:List Tok):CP ByteArray:=cW z r fun s r1=>ep (ah 91) r1 (fun r2=>fD z r2 fun n r3=>bJ z (ah 93) r3 fun r4=>.ok (ni s n) r4) (.ok s r1)
def eJ(z:Int)(r:List Tok):CP (List ByteArray):=(eP z r).bind fun s r1=>bY (fun l r=>(acc (ah 44) r).map fun r2=>(eP z r2).bind fun s r3=>.ok (l++[s]) r3) [s] r1
def fq(z:Int)(r:List Tok):CP Wt:=fD z r fun lo r1=>(ep (bL 46 46) r1 (fun r2=>fD z r2 fun hi r3=>.ok hi r3) (.ok lo r1)).bind fun hi r2=>
 (ep (bL 58 61) r2 (fun r3=>.ok true r3) (bJ z (bL 58 47) r2 fun r3=>.ok false r3)).bind fun b r3=>fD z r3 fun w r4=>.ok ⟨lo,hi,w,b⟩ r4
def gI(z:Int)(r:List Tok):CP (List Wt):=(fq z r).bind fun w r1=>bY (fun l r=>(acc (ah 44) r).map fun r2=>(fq z r2).bind fun w r3=>.ok (l++[w]) r3) [w] r1
def px(z:Int)(r:List Tok):CP It:=(eP z r).bind fun s r1=>bJ z (ah 123) r1 fun r2=>(gI z r2).bind fun l r3=>bJ z (ah 125) r3 fun r4=>bJ z (ah 59) r4 fun r5=>.ok (.mk 3 exZ s ⟨#[]⟩ l [] [] [] []) r5
def lg(z:Int)(r:List Tok):CP It:=(eJ z r).bind fun l r1=>bJ z ⟨#[98,101,102,111,114,101]⟩ r1 fun r2=>(eJ z r2).bind fun m r3=>bJ z (ah 59) r3 fun r4=>.ok (.mk 6 exZ ⟨#[]⟩ ⟨#[]⟩ [] [] [] l m) r4
def fA(z:Int)(k:Int)(r:List Tok):CP It:=exC z r fun e r1=>bJ z (ah 59) r1 fun r2=>.ok (.mk k e ⟨#[]⟩ ⟨#[]⟩ [] [] [] [] []) r2
def DA:ByteArray:=⟨#[115,111,102,116]⟩
def BZ:ByteArray:=⟨#[100,105,115,116]⟩
def ifW:ByteArray:=⟨#[105,102]⟩
def GH:ByteArray:=⟨#[101,108,115,101]⟩
def Bo:ByteArray:=⟨#[101,97,99,104]⟩
def inW:ByteArray:=⟨#[105,110]⟩
def vT:ByteArray:=⟨#[115,111,108,118,101]⟩
structure Rec where
 item:List Tok->CP It
 rest:List It->List Tok->CP (List It)
def fc(z:Int)(R:Rec)(r:List Tok):CP (List It):=bJ z (ah 123) r fun r1=>R.rest [] r1
def ifC(z:Int)(R:Rec)(r:List Tok):CP It:=bJ z (ah 40) r fun r2=>exC z r2 fun e r3=>bJ z (ah 41) r3 fun r4=>(fc z R r4).bind fun l r5=>
 (ep GH r5 (fun r6=>fc z R r6) (.ok [] r5)).bind fun m r7=>.ok (.mk 4 e ⟨#[]⟩ ⟨#[]⟩ [] l m [] []) r7
def nM(z:Int)(R:Rec)(r:List Tok):CP It:=cW z r fun i r2=>bJ z inW r2 fun r3=>cW z r3 fun s r4=>(fc z R r4).bind fun l r5=>.ok (.mk 5 exZ s i [] l [] [] []) r5
def gc(z:Int)(R:Rec):Rec where
 item r:=ep DA r (fA z 2) <| ep BZ r (px z) <| ep ifW r (ifC z R) <| ep Bo r (nM z R) <| ep vT r (lg z) (fA z 1 r)
 rest l r:=ep (ah 125) r (fun r1=>.ok l r1) ((R.item r).bind fun x r1=>R.rest (l++[x]) r1)
def eI(z:Int):Nat->Rec
 | 0=>⟨fun _=>.out,fun _ _=>.out⟩
 | n+1=>gc z (eI z n)
def jt(z:Int)(r:List Tok):CP It:=(eI z (2*r.length+1)).item r
def ic(z:Int)(l:List It)(r:List Tok):CP (List It):=(eI z (2*r.length+2)).rest l r
def gM(z:Int):Rec:=⟨jt z,ic z⟩
def pC(z:Int)(r:List Tok):CP Int:=ep (ah 91) r (fun r1=>fD z r1 fun n r2=>if n<1 then .bad 5 (lnR z r1)else bJ z (ah 93) r2 fun r3=>.ok n r3) (.ok 0 r)
def eD(z:Int)(m:Int)(r:List Tok):CP Fl:=cW z r fun s r1=>(pC z r1).bind fun k r2=>bJ z (ah 58) r2 fun r3=>fD z r3 fun w r4=>
 (if m=0 then bJ z (ah 61) r4 fun r5=>fD z r5 fun v r6=>.ok v r6 else .ok 0 r4:CP Int).bind fun v r5=>bJ z (ah 59) r5 fun r6=>.ok ⟨s,w,k,m,v⟩ r6
def ro:ByteArray:=⟨#[114,97,110,100]⟩
def nx:ByteArray:=⟨#[114,97,110,100,99]⟩
def mV:ByteArray:=⟨#[115,116,97,116,101]⟩
def jJ:ByteArray:=⟨#[99,108,97,115,115]⟩
def uH:ByteArray:=⟨#[101,120,116,101,110,100,115]⟩
def dA:ByteArray:=⟨#[99,111,110,115,116,114,97,105,110,116]⟩
def fk(z:Int)(r:List Tok):CP (List Fl):=
 let one:List Fl->CP Fl->CP (List Fl):=fun l x=>x.bind fun x q=>.ok (l++[x]) q
 bY (fun l r=>match acc ro r with
  | some r1=>some (one l (eD z 1 r1))
  | none=>match acc nx r with
   | some r1=>some (one l (eD z 2 r1))
   | none=>match acc mV r with
    | some r1=>some (one l (eD z 0 r1))
    | none=>none) [] r
def gQ(z:Int)(r:List Tok):CP (ByteArray×List It):=cW z r fun s r1=>(fc z (gM z) r1).bind fun l r3=>.ok (s,l) r3
def gr(z:Int)(r:List Tok):CP (List (ByteArray×List It)):=bY (fun l r=>(acc dA r).map fun r1=>(gQ z r1).bind fun b r2=>.ok (l++[b]) r2) [] r
def dR(z:Int)(r:List Tok):CP Kl:=bJ z jJ r fun r1=>cW z r1 fun s r2=>(ep uH r2 (fun r3=>cW z r3 fun p r4=>.ok p r4) (.ok ⟨#[]⟩ r2)).bind fun p r3=>
 bJ z (ah 123) r3 fun r4=>(fk z r4).bind fun f r5=>(gr z r5).bind fun b r6=>bJ z (ah 125) r6 fun r7=>.ok ⟨s,p,f,b⟩ r7
def kP(z:Int)(r:List Tok):CP (List It):=bY (fun l r=>if r.isEmpty=true then none else some ((jt z r).bind fun x r1=>.ok (l++[x]) r1)) [] r
def fB(z:Int)(r:List Tok):CP (List Kl):=bY (fun l r=>if r.isEmpty=true then none else some ((dR z r).bind fun c r1=>.ok (l++[c]) r1)) [] r
def u2(z:Int)(r:List Tok):CP Kl:=(dR z r).bind fun c r1=>if r1.isEmpty=true then .ok c r1 else gV z r1
end Go.Proofs.YtnhphlmblenapaaGreatDoor
namespace Go.Proofs.YtnhphlmblenapaaGreatDoor
open Go.RowKit
theorem Et{r q:List Tok}{e:Ex}(h:par .W r=.ok e q):q <:+ r/\bN e+q.length≤r.length:=by
 have h1:=sp (40*r.length+20) .W r;have h2:=jI .W r;have h0:=h;unfold par at h;rw[h]at h1;rw[h0]at h2;have h3:=h1.2;have h4:=h1.1;simp only[PK.size]at h3;exact⟨h2.1,by omega⟩
def Tk{α:Type}(sz:α->Nat)(c:Nat)(r:List Tok):CP α->Prop
 | .out=>False
 | .bad e _=>e≠0
 | .ok v q=>q <:+ r/\sz v+q.length≤c
section
variable {α β : Type} {sz : α -> Nat} {sy : β -> Nat} {c c' : Nat} {r : List Tok}
theorem Tk.weak{x:CP α}{q:List Tok}(h:Tk sz c q x)(hq:q <:+ r):Tk sz c r x:=by
 cases x with
 | out=>exact h
 | bad e n=>exact h
 | ok v p=>exact⟨h.1.trans hq,h.2⟩
theorem bX{x:CP β}{f:β->List Tok->CP α}(h:Tk sy c' r x)(hf:∀v q,q <:+ r->sy v+q.length≤c'->Tk sz c r (f v q)):Tk sz c r (x.bind f):=by
 cases x with
 | out=>exact h
 | bad e n=>exact h
 | ok v p=>exact hf v p h.1 h.2
theorem oB{z:Int}{q:List Tok}:Tk sz c r (gV z q):=by
 cases q with
 | nil=>exact(by decide:(6:Int)≠0)
 | cons t q=>exact(by decide:(5:Int)≠0)
variable {z : Int} {m : ByteArray} {q : List Tok}
theorem cD{k:List Tok->CP α}(hq:q <:+ r)(h:∀r1,r1 <:+ r->r1.length<q.length->Tk sz c r (k r1)):Tk sz c r (bJ z m q k):=by
 unfold bJ;cases ha:acc m q with
 | some r1=>exact h r1 ((az ha).1.trans hq) (az ha).2
 | none=>exact oB
theorem gh{k:List Tok->CP α}{n:CP α}(hq:q <:+ r)(h:∀r1,r1 <:+ r->r1.length<q.length->Tk sz c r (k r1))(hn:Tk sz c r n):Tk sz c r (ep m q k n):=by
 unfold ep;cases ha:acc m q with
 | some r1=>exact h r1 ((az ha).1.trans hq) (az ha).2
 | none=>exact hn
theorem ib{k:ByteArray->List Tok->CP α}(hq:q <:+ r)(h:∀s r1,r1 <:+ r->r1.length<q.length->Tk sz c r (k s r1)):Tk sz c r (cW z q k):=by
 unfold cW;cases ha:bD q with
 | some p=>exact h p.1 p.2 ((ff ha).1.trans hq) (ff ha).2
 | none=>exact oB
theorem ki{k:Int->List Tok->CP α}(hq:q <:+ r)(h:∀s r1,r1 <:+ r->r1.length<q.length->Tk sz c r (k s r1)):Tk sz c r (fD z q k):=by
 unfold fD;cases ha:cm q with
 | some p=>exact h p.1 p.2 ((iz ha).1.trans hq) (iz ha).2
 | none=>exact oB
theorem rY{k:Ex->List Tok->CP α}(hq:q <:+ r)(h:∀e r1,bU e=0->r1 <:+ r->bN e+r1.length≤q.length->Tk sz c r (k e r1)):Tk sz c r (exC z q k):=by
 unfold exC;cases ha:par .W q with
 | out=>exact absurd ha (eR _ _)
 | bad e p=>exact(rK ha).1
 | ok e p=>
  simp only;split
  .rename_i h0;exact h e p h0 ((Et ha).1.trans hq) (Et ha).2
  .rename_i h0;exact h0
def Dr(f:α->List Tok->Option (CP α)):Prop:=∀a r x,f a r=some x->∀v q,x=.ok v q->q.length<r.length
theorem qK{f:α->List Tok->Option (CP α)}(hf:Dr f):∀(n m:Nat) (a:α) (q:List Tok),q.length<n->q.length<m->iG f n a q=iG f m a q
 | 0,m,_,_,h,_=>by omega
 | n+1,0,_,_,_,h=>by omega
 | n+1,m+1,a,q,h1,h2=>by
  unfold iG;cases h:f a q with
  | none=>rfl
  | some x=>
   cases x with
   | out=>rfl
   | bad e l=>rfl
   | ok v p=>have:=hf a q _ h v p rfl;exact qK hf n m v p (by omega) (by omega)
theorem gy{f:α->List Tok->Option (CP α)}(hf:Dr f)(a:α)(q:List Tok):bY f a q=match f a q with
 | none=>.ok a q
 | some x=>x.bind fun v p=>bY f v p:=by
 unfold bY;rw[iG];cases h:f a q with
 | none=>rfl
 | some x=>
  cases x with
  | out=>rfl
  | bad e l=>rfl
  | ok v p=>have:=hf a q _ h v p rfl;exact qK hf _ _ v p (by omega) (by omega)
def Stp(sz:α->Nat)(f:α->List Tok->Option (CP α)):Prop:=∀a r x,f a r=some x->Tk (fun v=>max (sz v) (sz a+1)) (sz a+r.length) r x
theorem Stp.eats{f:α->List Tok->Option (CP α)}(h:Stp sz f):Dr f:=by
 intro a r x hx v q hv;have h1:=h a r x hx;subst hv;have:=h1.2;simp only at this;omega
theorem xI{f:α->List Tok->Option (CP α)}(h:Stp sz f):∀(n:Nat) (a:α) (q:List Tok),q.length<n->q <:+ r->sz a+q.length≤c->Tk sz c r (iG f n a q)
 | 0,_,_,h,_,_=>by omega
 | n+1,a,q,hn,hq,hc=>by
  unfold iG;cases hf:f a q with
  | none=>exact⟨hq,hc⟩
  | some x=>
   refine bX ((h a q x hf).weak hq) fun v p hp hs=>?_;exact xI h n v p (by omega) hp (by omega)
theorem iw{f:α->List Tok->Option (CP α)}(h:Stp sz f){a:α}(hq:q <:+ r)(hc:sz a+q.length≤c):Tk sz c r (bY f a q):=xI h _ a q (Nat.lt_succ_self _) hq hc
end
def fE{α:Type}(_:α):Nat:=1
def zr1{α:Type}(_:α):Nat:=0
theorem kV{α:Type}{v:α}{n m:Nat}(h:n≤m):zr1 v+n≤m:=by unfold zr1;omega
variable (z : Int)
theorem e8(r:List Tok):Tk fE r.length r (eP z r):=
 ib (Pa _) fun _ r1 h1 l1=>gh h1 (fun r2 h2 l2=>ki h2 fun _ r3 h3 l3=>cD h3 fun r4 h4 l4=>⟨h4,by unfold fE;omega⟩) ⟨h1,by unfold fE;omega⟩
theorem iD{α:Type}{p:List Tok->CP α}(h:∀r,Tk fE r.length r (p r)):Stp (α:=List α) Pe fun l r=>(acc (ah 44) r).map fun r2=>(p r2).bind fun s r3=>.ok (l++[s]) r3:=by
 intro l r x hx;simp only at hx;cases ha:acc (ah 44) r with
 | none=>rw[ha]at hx;cases hx
 | some r2=>
  rw[ha]at hx;cases hx;have:=az ha;exact bX ((h r2).weak this.1) fun v q hq hs=>⟨hq,by unfold fE at hs;simp only[Pf,Pb];omega⟩
theorem iX(r:List Tok):Tk Pe r.length r (eJ z r):=
 bX (e8 z r) fun _ q hq hs=>iw (iD (e8 z)) hq (by unfold fE at hs;rw[Pb];omega)
theorem gC(r:List Tok):Tk fE r.length r (fq z r):=
 ki (Pa _) fun _ r1 h1 l1=>bX (sy:=zr1) (c':=r1.length) (gh h1 (fun r2 h2 l2=>ki h2 fun _ r3 h3 l3=>⟨h3,kV (by omega)⟩) ⟨h1,kV (by omega)⟩) fun _ r2 h2 l2=>
  bX (sy:=zr1) (c':=r2.length) (gh h2 (fun r3 h3 l3=>⟨h3,kV (by omega)⟩) (cD h2 fun r3 h3 l3=>⟨h3,kV (by omega)⟩)) fun _ r3 h3 l3=>ki h3 fun _ r4 h4 l4=>⟨h4,by unfold fE;omega⟩
theorem vJ(r:List Tok):Tk Pe r.length r (gI z r):=
 bX (gC z r) fun _ q hq hs=>iw (iD (gC z)) hq (by unfold fE at hs;rw[Pb];omega)
theorem mh(k:Int)(e:Ex)(nm ix:ByteArray)(ws:List Wt)(l m:List It)(bf af:List ByteArray):gq (.mk k e nm ix ws l m bf af)=1+bN e+ws.length+bf.length+af.length+bi l+bi m:=fU _
theorem pM:bN exZ=1:=rfl
theorem xK(r:List Tok):Tk gq r.length r (px z r):=
 bX (e8 z r) fun _ r1 h1 l1=>cD h1 fun r2 h2 l2=>bX ((vJ z r2).weak h2) fun l r3 h3 l3=>cD h3 fun r4 h4 l4=>cD h4 fun r5 h5 l5=>⟨h5,by
  rw[mh,pM];unfold fE at l1;simp only[Pd,bi];omega⟩
theorem sZ(r:List Tok):Tk gq r.length r (lg z r):=
 bX (iX z r) fun l r1 h1 l1=>cD h1 fun r2 h2 l2=>bX ((iX z r2).weak h2) fun m r3 h3 l3=>cD h3 fun r4 h4 l4=>⟨h4,by
  rw[mh,pM];simp only[Pd,bi];omega⟩
theorem l8(k:Int)(r:List Tok):Tk gq r.length r (fA z k r):=
 rY (Pa _) fun e r1 _ h1 l1=>cD h1 fun r2 h2 l2=>⟨h2,by rw[mh];simp only[Pd,bi];omega⟩
theorem oa{R:Rec}{c:Nat}{r q:List Tok}(h:∀p,p.length<q.length->Tk bi p.length p (R.rest [] p))(hq:q <:+ r):Tk bi (q.length-1) r (fc z R q):=
 cD hq fun r1 h1 l1=>by
  have h2:=(h r1 l1).weak h1;cases hx:R.rest [] r1 with
  | out=>rw[hx]at h2;exact h2
  | bad e n=>rw[hx]at h2;exact h2
  | ok v p=>rw[hx]at h2;exact⟨h2.1,by have:=h2.2;omega⟩
theorem GS{R:Rec}{r:List Tok}(h:∀p,p.length<r.length->Tk bi p.length p (R.rest [] p)):Tk gq r.length r (ifC z R r):=
 cD (Pa _) fun r2 h2 l2=>rY h2 fun e r3 _ h3 l3=>cD h3 fun r4 h4 l4=>bX (oa z (c:=0) (fun p hp=>h p (by omega)) h4) fun l r5 h5 l5=>
  bX (sy:=bi) (c':=r5.length) (gh h5 (fun r6 h6 l6=>by
   have h7:=oa z (c:=0) (fun p hp=>h p (by omega)) h6;cases hx:fc z R r6 with
   | out=>rw[hx]at h7;exact h7
   | bad e n=>rw[hx]at h7;exact h7
   | ok v p=>rw[hx]at h7;exact⟨h7.1,by have:=h7.2;omega⟩) ⟨h5,by simp only[bi];omega⟩) fun m r7 h7 l7=>⟨h7,by rw[mh];simp only[Pd];omega⟩
theorem yi{R:Rec}{r:List Tok}(h:∀p,p.length<r.length->Tk bi p.length p (R.rest [] p)):Tk gq r.length r (nM z R r):=
 ib (Pa _) fun i r2 h2 l2=>cD h2 fun r3 h3 l3=>ib h3 fun s r4 h4 l4=>bX (oa z (c:=0) (fun p hp=>h p (by omega)) h4) fun l r5 h5 l5=>⟨h5,by rw[mh,pM];simp only[Pd,bi];omega⟩
theorem ER{R:Rec}{r:List Tok}(h:∀p,p.length<r.length->Tk bi p.length p (R.rest [] p)):Tk gq r.length r ((gc z R).item r):=by
 have up:∀{r1:List Tok} {x:CP It},r1 <:+ r->r1.length<r.length->Tk gq r1.length r1 x->Tk gq r.length r x:=fun{r1 x} h1 l1 hx=>by
  have h2:=hx.weak h1;cases x with
  | out=>exact h2
  | bad e n=>exact h2
  | ok v p=>exact⟨h2.1,by have:=h2.2;omega⟩
 have hr:=Pa r
 exact gh hr (fun r1 h1 l1=>up h1 l1 (l8 z 2 r1)) <| gh hr (fun r1 h1 l1=>up h1 l1 (xK z r1)) <| gh hr (fun r1 h1 l1=>up h1 l1 (GS z fun p hp=>h p (by omega))) <|
  gh hr (fun r1 h1 l1=>up h1 l1 (yi z fun p hp=>h p (by omega))) <| gh hr (fun r1 h1 l1=>up h1 l1 (sZ z r1)) (l8 z 1 r)
theorem qY(l m:List It):bi (l++m)=bi l+bi m:=by
 induction l with
 | nil=>simp[bi]
 | cons a l ih=>simp only[List.cons_append,bi,ih];omega
theorem qH(x:It):bi [x]=gq x:=by simp[bi]
theorem jU(x:It):1≤gq x:=by rw[fU];omega
theorem F9{R:Rec}{l:List It}{r:List Tok}(h:Tk gq r.length r (R.item r))(h2:∀l p,p.length<r.length->Tk bi (bi l+p.length) p (R.rest l p)):Tk bi (bi l+r.length) r ((gc z R).rest l r):=
 gh (Pa _) (fun r1 h1 l1=>⟨h1,by omega⟩) (bX h fun x p hp hs=>by
  have h3:=jU x;have h4:=(h2 (l++[x]) p (by omega)).weak hp;cases hx:R.rest (l++[x]) p with
  | out=>rw[hx]at h4;exact h4
  | bad e n=>rw[hx]at h4;exact h4
  | ok v q=>rw[hx]at h4;exact⟨h4.1,by have:=h4.2;rw[qY,qH]at this;omega⟩)
theorem lS:∀n,(∀r,2*r.length+1≤n->Tk gq r.length r ((eI z n).item r))/\(∀l r,2*r.length+2≤n->Tk bi (bi l+r.length) r ((eI z n).rest l r))
 | 0=>⟨fun r h=>by omega,fun l r h=>by omega⟩
 | n+1=>⟨fun r h=>ER z fun p hp=>by have:=(lS n).2 [] p (by omega);simp only[bi,Pi]at this;exact this,fun l r h=>F9 z ((lS n).1 r (by omega)) fun l p hp=>(lS n).2 l p (by omega)⟩
def CP.le{α:Type}(x y:CP α):Prop:=x=.out\/x=y
section
variable {α β : Type} {z : Int} {r : List Tok}
theorem CP.le.rfl{x:CP α}:x.le x:=.inr (Eq.refl x)
theorem ov{x x':CP β}{f f':β->List Tok->CP α}(h:x.le x')(hf:∀e r,(f e r).le (f' e r)):(x.bind f).le (x'.bind f'):=by
 rcases h with rfl|rfl
 .exact .inl (Eq.refl _)
 .cases x with
  | out=>exact .inl (Eq.refl _)
  | bad e r=>exact .rfl
  | ok e r=>exact hf e r
theorem ou{m:ByteArray}{k k':List Tok->CP α}(h:∀r,(k r).le (k' r)):(bJ z m r k).le (bJ z m r k'):=by
 unfold bJ;cases acc m r with
 | some r1=>exact h r1
 | none=>exact .rfl
theorem mZ{m:ByteArray}{k k':List Tok->CP α}{n n':CP α}(h:∀r,(k r).le (k' r))(hn:n.le n'):(ep m r k n).le (ep m r k' n'):=by
 unfold ep;cases acc m r with
 | some r1=>exact h r1
 | none=>exact hn
theorem xT{k k':ByteArray->List Tok->CP α}(h:∀s r,(k s r).le (k' s r)):(cW z r k).le (cW z r k'):=by
 unfold cW;cases bD r with
 | some p=>exact h _ _
 | none=>exact .rfl
theorem Fu{k k':Ex->List Tok->CP α}(h:∀s r,(k s r).le (k' s r)):(exC z r k).le (exC z r k'):=by
 unfold exC;cases par .W r with
 | out=>exact .rfl
 | bad c q=>exact .rfl
 | ok e q=>
  simp only;split
  .exact h _ _
  .exact .rfl
end
theorem sN{R S:Rec}(h1:∀r,(R.item r).le (S.item r))(h2:∀l r,(R.rest l r).le (S.rest l r)):(∀r,((gc z R).item r).le ((gc z S).item r))/\∀l r,((gc z R).rest l r).le ((gc z S).rest l r):=by
 have hb:∀q,(fc z R q).le (fc z S q):=fun q=>ou fun p=>h2 [] p;refine⟨fun r=>?_,fun l r=>mZ (fun _=>.rfl) (ov (h1 r) fun x p=>h2 _ p)⟩;refine mZ (fun _=>.rfl) <| mZ (fun _=>.rfl) <| mZ (fun r1=>?_) <| mZ (fun r1=>?_) <| .rfl
 .exact ou fun r2=>Fu fun e r3=>ou fun r4=>ov (hb r4) fun l r5=>ov (mZ hb .rfl) fun _ _=>.rfl
 .exact xT fun i r2=>ou fun r3=>xT fun s r4=>ov (hb r4) fun _ _=>.rfl
theorem oj:∀n,(∀r,((eI z n).item r).le ((eI z (n+1)).item r))/\∀l r,((eI z n).rest l r).le ((eI z (n+1)).rest l r)
 | 0=>⟨fun _=>.inl rfl,fun _ _=>.inl rfl⟩
 | n+1=>sN z (oj n).1 (oj n).2
theorem le_trans{α:Type}{x y w:CP α}(h:x.le y)(h2:y.le w):x.le w:=by
 rcases h with rfl|rfl
 .exact .inl rfl
 .exact h2
theorem km{n m:Nat}(h:n≤m):(∀r,((eI z n).item r).le ((eI z m).item r))/\∀l r,((eI z n).rest l r).le ((eI z m).rest l r):=by
 induction h with
 | refl=>exact⟨fun _=>.rfl,fun _ _=>.rfl⟩
 | step h ih=>exact⟨fun r=>le_trans (ih.1 r) ((oj z _).1 r),fun l r=>le_trans (ih.2 l r) ((oj z _).2 l r)⟩
theorem mX(r:List Tok):Tk gq r.length r (jt z r):=(lS z _).1 r (Pg _)
theorem sn(l:List It)(r:List Tok):Tk bi (bi l+r.length) r (ic z l r):=(lS z _).2 l r (Pg _)
theorem Tk.ne{α:Type}{sz:α->Nat}{c:Nat}{r:List Tok}{x:CP α}(h:Tk sz c r x):x≠.out:=by rintro rfl;exact h
theorem ru(n:Nat)(r:List Tok):((eI z n).item r).le (jt z r):=by
 rcases Pj n (2*r.length+1)with h|h
 .exact(km z h).1 r
 .rcases(km z h).1 r with e|e
  .exact absurd e (mX z r).ne
  .exact .inr e.symm
theorem qI(n:Nat)(l:List It)(r:List Tok):((eI z n).rest l r).le (ic z l r):=by
 rcases Pj n (2*r.length+2)with h|h
 .exact(km z h).2 l r
 .rcases(km z h).2 l r with e|e
  .exact absurd e (sn z l r).ne
  .exact .inr e.symm
theorem sT(r:List Tok):jt z r=(gc z (gM z)).item r:=by
 rcases(sN z (S:=gM z) (ru z (2*r.length)) (qI z (2*r.length))).1 r with e|e
 .exact absurd e (mX z r).ne
 .exact e
theorem ur(l:List It)(r:List Tok):ic z l r=(gc z (gM z)).rest l r:=by
 rcases(sN z (S:=gM z) (ru z (2*r.length+1)) (qI z (2*r.length+1))).2 l r with e|e
 .exact absurd e (sn z l r).ne
 .exact e
theorem uj(r:List Tok):Tk zr1 r.length r (pC z r):=
 gh (Pa _) (fun r1 h1 l1=>ki h1 fun n r2 h2 l2=>by
  split
  .exact(by decide:(5:Int)≠0)
  .exact cD h2 fun r3 h3 l3=>⟨h3,kV (by omega)⟩) ⟨Pa _,kV (Pg _)⟩
theorem iH(m:Int)(r:List Tok):Tk fE r.length r (eD z m r):=
 ib (Pa _) fun s r1 h1 l1=>bX ((uj z r1).weak h1) fun k r2 h2 l2=>cD h2 fun r3 h3 l3=>ki h3 fun w r4 h4 l4=>
  bX (sy:=zr1) (c':=r4.length) (by
   split
   .exact cD h4 fun r5 h5 l5=>ki h5 fun v r6 h6 l6=>⟨h6,kV (by omega)⟩
   .exact⟨h4,kV (Pg _)⟩) fun v r5 h5 l5=>cD h5 fun r6 h6 l6=>⟨h6,by unfold fE;omega⟩
theorem pV{α:Type}{x:CP α}{l:List α}{r r1:List Tok}{sz:α->Nat}(h1:r1 <:+ r)(l1:r1.length≤r.length)(h:Tk sz r1.length r1 x)(hp:∀v,1≤sz v):Tk (fun v=>max v.length (l.length+1)) (l.length+r.length) r (x.bind fun v q=>.ok (l++[v]) q):=
 bX (h.weak h1) fun v q hq hs=>⟨hq,by have:=hp v;simp only[Pf,Pb];omega⟩
def fT(z:Int)(l:List Fl)(r:List Tok):Option (CP (List Fl)):=match acc ro r with
 | some r1=>some ((eD z 1 r1).bind fun x q=>.ok (l++[x]) q)
 | none=>match acc nx r with
  | some r1=>some ((eD z 2 r1).bind fun x q=>.ok (l++[x]) q)
  | none=>match acc mV r with
   | some r1=>some ((eD z 0 r1).bind fun x q=>.ok (l++[x]) q)
   | none=>none
theorem lx(z:Int):Stp Pe (fT z):=by
 intro l r x hx;unfold fT at hx;cases h1:acc ro r with
 | some r1=>rw[h1]at hx;cases hx;exact pV (az h1).1 (Ph (az h1).2) (iH z 1 r1) fun _=>Pg _
 | none=>
 cases h2:acc nx r with
 | some r1=>rw[h1,h2]at hx;cases hx;exact pV (az h2).1 (Ph (az h2).2) (iH z 2 r1) fun _=>Pg _
 | none=>
 cases h3:acc mV r with
 | some r1=>rw[h1,h2,h3]at hx;cases hx;exact pV (az h3).1 (Ph (az h3).2) (iH z 0 r1) fun _=>Pg _
 | none=>rw[h1,h2,h3]at hx;cases hx
theorem ri(r:List Tok):Tk Pe r.length r (fk z r):=iw (lx z) (Pa _) (by simp)
def bsz(l:List (ByteArray×List It)):Nat:=(l.map fun b=>1+bi b.2).sum
def ksz(c:Kl):Nat:=1+c.flds.length+bsz c.blks
theorem jw{r q:List Tok}(hq:q <:+ r):Tk bi (q.length-1) r (fc z (gM z) q):=
 oa z (c:=0) (fun p _=>by have:=sn z [] p;simp only[bi,Pi]at this;exact this) hq
theorem CY(r:List Tok):Tk (fun b:ByteArray×List It=>1+bi b.2) r.length r (gQ z r):=
 ib (Pa _) fun s r1 h1 l1=>bX (jw z h1) fun l r2 h2 l2=>⟨h2,by simp only;omega⟩
theorem Ce(l:List (ByteArray×List It))(b:ByteArray×List It):bsz (l++[b])=bsz l+(1+bi b.2):=by simp[bsz]
theorem lu(z:Int):Stp bsz fun(l:List (ByteArray×List It)) r=>(acc dA r).map fun r1=>(gQ z r1).bind fun b r2=>.ok (l++[b]) r2:=by
 intro l r x hx;simp only at hx;cases ha:acc dA r with
 | none=>rw[ha]at hx;cases hx
 | some r2=>
  rw[ha]at hx;cases hx;have:=az ha;exact bX ((CY z r2).weak this.1) fun v q hq hs=>⟨hq,by simp only[Ce]at *;omega⟩
theorem Ar(r:List Tok):Tk bsz r.length r (gr z r):=iw (lu z) (Pa _) (by simp[bsz])
theorem gb(r:List Tok):Tk ksz r.length r (dR z r):=
 cD (Pa _) fun r1 h1 l1=>ib h1 fun s r2 h2 l2=>bX (sy:=zr1) (c':=r2.length) (gh h2 (fun r3 h3 l3=>ib h3 fun p r4 h4 l4=>⟨h4,kV (by omega)⟩) ⟨h2,kV (Pg _)⟩) fun p r3 h3 l3=>
  cD h3 fun r4 h4 l4=>bX ((ri z r4).weak h4) fun f r5 h5 l5=>bX ((Ar z r5).weak h5) fun b r6 h6 l6=>cD h6 fun r7 h7 l7=>⟨h7,by unfold ksz;simp only;omega⟩
theorem pS{α:Type}{sz:α->Nat}{p:List Tok->CP α}(hp:∀r,Tk sz r.length r (p r))(h1:∀x,1≤sz x):Dr fun(l:List α) r=>if r.isEmpty=true then none else some ((p r).bind fun x r1=>.ok (l++[x]) r1):=by
 intro l r x hx v q hv;simp only at hx;split at hx
 .cases hx
 cases hx;have h2:=hp r;cases hy:p r with
 | out=>rw[hy]at hv;cases hv
 | bad e n=>rw[hy]at hv;cases hv
 | ok y r3=>
  rw[hy]at hv h2;cases hv;have:=h2.2;have:=h1 y;omega
theorem p4(r:List Tok):Tk bi r.length r (kP z r):=by
 refine iw (sz:=bi) ?_ (Pa _) (by simp[bi]);intro l r x hx;simp only at hx;split at hx
 .cases hx
 .cases hx;exact bX (mX z r) fun v q hq hs=>⟨hq,by have:=jU v;simp only[qY,qH];omega⟩
def li(l:List Kl):Nat:=(l.map ksz).sum
theorem Ak(l:List Kl)(c:Kl):li (l++[c])=li l+ksz c:=by simp[li]
theorem ma(r:List Tok):Tk li r.length r (fB z r):=by
 refine iw (sz:=li) ?_ (Pa _) (by simp[li]);intro l r x hx;simp only at hx;split at hx
 .cases hx
 .cases hx;refine bX (gb z r) fun v q hq hs=>⟨hq,?_⟩
  have:1≤ksz v:=by unfold ksz;omega
  simp only[Ak];omega
theorem xb(r:List Tok):Tk ksz r.length r (u2 z r):=
 bX (gb z r) fun c r1 h1 l1=>by
  split
  .exact⟨h1,l1⟩
  .exact oB
theorem mQ(w:Int):(gM w).rest=ic w:=rfl
theorem uX(z:Int)(r:List Tok):jt z r=ep DA r (fA z 2) (ep BZ r (px z) (ep ifW r (ifC z (gM z)) (ep Bo r (nM z (gM z)) (ep vT r (lg z) (fA z 1 r))))):=sT z r
theorem wZ(z:Int)(l:List It)(r:List Tok):ic z l r=ep (ah 125) r (fun r1=>.ok l r1) ((jt z r).bind fun x r1=>ic z (l++[x]) r1):=ur z l r
end Go.Proofs.YtnhphlmblenapaaGreatDoor
namespace Go.Proofs.YtnhphlmblenapaaGreatDoor
open Go.RowKit
def c11:Cd:=sq [oM 4 (.mv kF)] [0,1] (.seq (sq [oV 6 0,ZN 7 6,oV 8 1,ZN 9 8,Yn 10 7 9] [0,1,10] (.cond (.t 10) (sq [oM 4 (.mv kF)] [4] .ret) .skip)) (.seq (sq [oI 5 0] [0,1,5] (.block 0 (.loop (.seq (sq [oV 11 5,oV 12 0,ZN 13 12,Yl 14 11 13] [0,1,5,14] (.cond (.t 14) .skip (.exit 0))) (.seq (.block 1 (.seq (.draw [oV 17 0,oV 18 5,ZI 19 12 17 18,ZM 20 12 19,oV 21 1,oV 22 5,ZI 23 12 21 22,
 ZM 24 12 23,ZD 25 31 20 24,ZU 26 25] [0,1,5,26]) (.cond (.t 26) (sq [oM 4 (.mv kF)] [4] .ret) .skip))) (.ops [oV 15 5,Wa 16 15 1,oV 5 16] [0,1,5])))))) (sq [oM 4 (.mv kT)] [4] .ret)))
def M8:List RV:=[.t 4 false]
theorem k11:aP G.tab Tryz.f11 2 c11 M8=true:=by kernel_rfl
def c31:Cd:=sq [ZB 2 54 0,ZB 3 54 1,oM 4 (.mv kF)] [2,3] (.seq (sq [ZF 6 0 2,ZL 7 1 6,ZF 8 0 3,ZL 9 1 8,Yn 10 7 9,oV 11 10,oH 12 11 (zF 1 2),oH 13 11 (zM 4 12),oH 14 11 (zF 1 3),oH 15 11 (zM 4 14),oH 16 11 (zD 79 13 15),oH 17 11 (zU 16),ZP 18 11 17,oV 19 18,oH 20 19 (zF 5 2),oH 21 19 (zL 1 20),oH 22 19 (zF 5 3),oH 23 19 (zL 1 22),oH 24 19 (yn 21 23),ZP 25 19 24,oV 26 25,oH 27 26 (zF 6 2),
 oH 28 26 (zL 1 27),oH 29 26 (zF 6 3),oH 30 26 (zL 1 29),oH 31 26 (yn 28 30),ZP 32 26 31,oV 33 32,oH 34 33 (zF 7 2),oH 35 33 (zL 1 34),oH 36 33 (zN 35),oH 37 33 (zF 7 3),oH 38 33 (zL 1 37),oH 39 33 (zN 38),oH 40 33 (yn 36 39),ZP 41 33 40] [2,3,41] (.cond (.t 41) (sq [oM 4 (.mv kF)] [4] .ret) .skip)) (.seq (sq [oI 5 0] [2,3,5] (.block 0 (.loop (.seq (sq [oV 42 5,ZF 43 7 2,ZL 44 1 43,ZN 45 44,
 Yl 46 42 45] [2,3,5,46] (.cond (.t 46) .skip (.exit 0))) (.seq (.block 1 (.seq (.draw [ZF 49 7 2,ZL 50 1 49,oV 51 5,ZI 52 4 50 51,ZM 53 4 52,ZF 54 7 3,ZL 55 1 54,oV 56 5,ZI 57 4 55 56,ZM 58 4 57,oM 59 (.eqa true 56 [.i .i64,.i .i64,.i .i64,.b] (.t 53) (.t 58))] [2,3,5,59]) (.cond (.t 59) (sq [oM 4 (.mv kF)] [4] .ret) .skip))) (.ops [oV 47 5,Wa 48 47 1,oV 5 48] [2,3,5])))))) (sq [ZF 60 8 2,
 ZL 61 1 60,ZF 62 8 3,ZL 63 1 62,ZD 64 11 61 63,oV 65 64,oG 66 65 (zF 9 2),oG 67 65 (zL 1 66),oG 68 65 (zF 9 3),oG 69 65 (zL 1 68),oG 70 65 (zD 11 67 69),ZQ 71 65 70,oV 72 71,oG 73 72 (zF 10 2),oG 74 72 (zL 1 73),oG 75 72 (zF 10 3),oG 76 72 (zL 1 75),oG 77 72 (zD 80 74 76),ZQ 78 72 77,oV 79 78,oG 80 79 (zF 11 2),oG 81 79 (zL 1 80),oG 82 79 (zF 11 3),oG 83 79 (zL 1 82),oG 84 79 (zD 80 81 83),
 ZQ 85 79 84,oV 4 85] [4] .ret)))
def OA:List RV:=[.t 4 false]
theorem k31:aP G.tab Tryz.f31 2 c31 OA=true:=by kernel_rfl
def c80:Cd:=sq [oM 4 (.mv kF)] [0,1] (.seq (sq [oV 6 0,ZN 7 6,oV 8 1,ZN 9 8,Yn 10 7 9] [0,1,10] (.cond (.t 10) (sq [oM 4 (.mv kF)] [4] .ret) .skip)) (.seq (sq [oI 5 0] [0,1,5] (.block 0 (.loop (.seq (sq [oV 11 5,oV 12 0,ZN 13 12,Yl 14 11 13] [0,1,5,14] (.cond (.t 14) .skip (.exit 0))) (.seq (.block 1 (.seq (.draw [oV 17 0,oV 18 5,ZI 19 1 17 18,ZL 20 1 19,oV 21 1,oV 22 5,ZI 23 1 21 22,ZL 24 1 23,
 Yn 25 20 24] [0,1,5,25]) (.cond (.t 25) (sq [oM 4 (.mv kF)] [4] .ret) .skip))) (.ops [oV 15 5,Wa 16 15 1,oV 5 16] [0,1,5])))))) (.seq (.ops [oM 4 (.mv kT)] [4]) .ret)))
def Nb:List RV:=[.t 4 false]
theorem k80:aP G.tab Tryz.f80 2 c80 Nb=true:=by kernel_rfl
end Go.Proofs.YtnhphlmblenapaaGreatDoor
