import Derived.Test.YthekkgfmagliiaaGreatDoorQg
set_option linter.unusedVariables false
set_option linter.unusedSimpArgs false
set_option linter.unusedSectionVars false
open List renaming cons_append->RS,append_assoc->RU,map_cons->RW,flatten_cons->RX,singleton_append->RY,nil_append->RZ,map_congr_left->R0,map_map->R5,length_cons->R6,length_append->R7,length_nil->R8
open Option renaming map_some->R9
namespace Go.Proofs.YthekkgfmagliiaaGreatDoor
open Go.RowKit
def QR.le{α:Type}(x y:QR α):Prop:=x=.out\/x=y
section
variable {α β : Type} {N : Int}
theorem QR.le.rfl{x:QR α}:x.le x:=.inr (Eq.refl x)
theorem dL{x x':QR β}{f f':β->List Tok->QR α}(h:x.le x')(hf:∀v r,(f v r).le (f' v r)):(x.bind f).le (x'.bind f'):=by
 rcases h with h|h
 .subst h;exact .inl (Eq.refl _)
 .subst h;cases x with
  | out=>exact .inl (Eq.refl _)
  | late=>exact .rfl
  | bad l e=>exact .rfl
  | ok v r=>exact hf v r
theorem dk{m:ByteArray}{r:List Tok}{f f':List Tok->QR α}(hf:∀r,(f r).le (f' r)):(cz N m r f).le (cz N m r f'):=by
 unfold cz;cases acc m r with|some r1=>exact hf r1|none=>exact .rfl
theorem lg{r:List Tok}{f f':Int->List Tok->QR α}(hf:∀n r,(f n r).le (f' n r)):(lB N r f).le (lB N r f'):=by
 unfold lB;cases ch r with|some p=>exact hf _ _|none=>exact .rfl
theorem Dl{r:List Tok}{f f':ByteArray->List Tok->QR α}(hf:∀n r,(f n r).le (f' n r)):(iy N r f).le (iy N r f'):=by
 unfold iy;cases bA r with|some p=>exact hf _ _|none=>exact .rfl
theorem oN{r:List Tok}{f f':Ex->List Tok->QR α}(hf:∀n r,(f n r).le (f' n r)):(i8 N r f).le (i8 N r f'):=by
 unfold i8;cases par .W r with
 | out=>exact .rfl
 | bad c r1=>exact .rfl
 | ok e r1=>simp only;split<;>first|exact hf _ _|exact .rfl
end
section
variable {N : Int}
theorem qz{rec rec':QK->List Tok->QR Ts}(h:∀k r,(rec k r).le (rec' k r))(k:QK)(r:List Tok):(bz N rec k r).le (bz N rec' k r):=by
 cases k with
 | S=>exact dL (h _ _) fun _ _=>h _ _
 | A=>exact dL (h _ _) fun _ _=>h _ _
 | R=>exact dL (h _ _) fun _ _=>h _ _
 | D=>exact dL (h _ _) fun _ _=>h _ _
 | Sp l=>
  simp only[bz];cases acc orW r with
  | some r1=>exact dL (h _ _) fun _ _=>h _ _
  | none=>exact .rfl
 | Ap l=>
  simp only[bz];cases acc kr r with
  | some r1=>exact dL (h _ _) fun _ _=>h _ _
  | none=>exact .rfl
 | Dp s=>
  simp only[bz];cases acc (aE 35 35) r with
  | none=>exact .rfl
  | some r1=>
   simp only;cases acc (aa 91) r1 with
   | some r2=>exact lg fun _ _=>dk fun _=>lg fun _ _=>dk fun _=>dL (h _ _) fun _ _=>h _ _
   | none=>exact lg fun _ _=>dL (h _ _) fun _ _=>h _ _
 | H=>
  simp only[bz];cases acc iB r with
  | none=>exact h _ _
  | some r1=>exact dk fun _=>oN fun _ _=>dk fun _=>dk fun _=>dL (h _ _) fun _ _=>.rfl
 | Rp s=>
  simp only[bz];cases acc (aa 91) r with
  | none=>exact .rfl
  | some r1=>
   refine dk fun _=>lg fun _ r3=>?_;cases acc (aa 58) r3 with
   | some r4=>exact lg fun _ _=>dk fun _=>h _ _
   | none=>exact dk fun _=>h _ _
 | U=>
  simp only[bz];cases acc (aa 123) r with
  | some r1=>exact oN fun _ _=>dk fun _=>.rfl
  | none=>
   refine dk fun _=>dL (h _ _) fun _ r2=>?_;cases acc (aa 44) r2 with
   | some r3=>exact Dl fun _ _=>dk fun _=>oN fun _ _=>dk fun _=>.rfl
   | none=>exact dk fun _=>.rfl
theorem sH:∀(n:Nat) (k:QK) (r:List Tok),(mw N n k r).le (mw N (n+1) k r)
 | 0,_,_=>.inl rfl
 | n+1,k,r=>qz (sH n) k r
theorem m5{n m:Nat}(h:n≤m)(k:QK)(r:List Tok):(mw N n k r).le (mw N m k r):=by
 induction h with
 | refl=>exact .rfl
 | step h ih=>
  rcases ih with e|e
  .exact .inl e
  .rw[e];exact sH _ k r
end
def QK.eats:QK->Nat
 | .Sp _=>0 | .Ap _=>0 | .Dp _=>0 | .Rp _=>0|_=>1
def QK.big:QK->Nat
 | .Sp l=>cj l+2*l.length+4*(1-l.length)
 | .Ap l=>cj l+2*l.length+4*(1-l.length)
 | .Dp s=>bd s+2
 | .Rp s=>bd s+2
 | _=>0
structure GD(r:List Tok)(c K:Nat)(x:QR Ts):Prop where
 ne:x≠.out
 ok:∀v r1,x=.ok v r1->r1.length+c≤r.length/\bd v+2+2*r1.length≤K+2*r.length
 bad:∀l e,x=.bad l e->e≠0
theorem ou{r:List Tok}{e:Ex}{r1:List Tok}(h:par .W r=.ok e r1):r1.length<r.length/\aT e+r1.length≤r.length:=by
 have h1:=uA (40*r.length+20) .W r;have h3:=nP .W r;unfold par at h h3;rw[h]at h1 h3;have h2:=h1.2;have h4:=h3.2 rfl;simp only[PK.size]at h2;exact⟨h4,by omega⟩
theorem tL(a b:List Ts):cj (a++b)=cj a+cj b:=by
 induction a with
 | nil=>simp[cj]
 | cons x a ih=>simp only[RS,cj,ih];omega
section
variable {N : Int} {r r' : List Tok} {c c' K K' : Nat}
theorem pI{v:Ts}{r1:List Tok}(h1:r1.length+c≤r.length)(h2:bd v+2+2*r1.length≤K+2*r.length):GD r c K (.ok v r1):=
 ⟨(by intro h;cases h),(by rintro _ _ ⟨⟩;exact⟨h1,h2⟩),(by rintro _ _ ⟨⟩)⟩
theorem uC{l e:Int}(h:e≠0):GD r c K (.bad l e):=⟨(by intro h;cases h),(by rintro _ _ ⟨⟩),(by rintro _ _ ⟨⟩;exact h)⟩
theorem BO:GD r c K .late:=⟨(by intro h;cases h),(by rintro _ _ ⟨⟩),(by rintro _ _ ⟨⟩)⟩
theorem u0(q:List Tok):GD r c K (kb N q):=by cases q<;>exact uC (by decide)
theorem GD.bind{x:QR Ts}{f:Ts->List Tok->QR Ts}(h:GD r' c' K' x)(hf:∀v r1,r1.length+c'≤r'.length->bd v+2+2*r1.length≤K'+2*r'.length->GD r c K (f v r1)):GD r c K (x.bind f):=by
 cases x with
 | out=>exact absurd rfl h.ne
 | late=>exact BO
 | bad l e=>exact uC (h.bad l e rfl)
 | ok v r1=>exact hf v r1 (h.ok v r1 rfl).1 (h.ok v r1 rfl).2
theorem GD.weak{x:QR Ts}(h:GD r' c' K' x)(h1:r'.length+c≤r.length+c')(h2:K'+2*r'.length≤K+2*r.length):GD r c K x:=
 ⟨h.ne,fun v r1 e=>by have:=h.ok v r1 e;omega,h.bad⟩
theorem fr{m:ByteArray}{f:List Tok->QR Ts}(hf:∀r1,r1.length<r'.length->GD r c K (f r1)):GD r c K (cz N m r' f):=by
 unfold cz;cases h:acc m r' with
 | some r1=>exact hf r1 (ay h).2
 | none=>exact u0 _
theorem sg{f:Int->List Tok->QR Ts}(hf:∀n r1,r1.length<r'.length->GD r c K (f n r1)):GD r c K (lB N r' f):=by
 unfold lB;cases h:ch r' with
 | some p=>exact hf _ _ (lj (n:=p.1) (r1:=p.2) h).2
 | none=>exact u0 _
theorem J0{f:ByteArray->List Tok->QR Ts}(hf:∀n r1,r1.length<r'.length->GD r c K (f n r1)):GD r c K (iy N r' f):=by
 unfold iy;cases h:bA r' with
 | some p=>exact hf _ _ (fq (s:=p.1) (r1:=p.2) h).2
 | none=>exact u0 _
theorem uH{f:Ex->List Tok->QR Ts}(hf:∀e r1,r1.length<r'.length->aT e+r1.length≤r'.length->GD r c K (f e r1)):GD r c K (i8 N r' f):=by
 unfold i8;cases h:par .W r' with
 | out=>exact absurd h (eV _ _)
 | bad c r1=>
  have:=(qj h).1;simp only;unfold II;split
  .exact uC (by decide)
  .cases r1<;>exact uC this
 | ok e r1=>
  obtain⟨h1,h2⟩:=ou h;simp only;split
  .exact hf e r1 h1 h2
  .exact BO
theorem qu:aT zEx=1:=rfl
theorem BU(o:Int):∀l:List Ts,bd (mr o l)+2≤cj l+2*l.length+4*(1-l.length)
 | []=>by simp[mr,nT,bd,cj,qu]
 | [s]=>by simp[mr,cj]
 | a::b::l=>by simp only[mr,nT,bd,qu,R6];omega
theorem Ju{n:Nat}{rec:QK->List Tok->QR Ts}(h:∀k r,dw k r≤n->GD r k.eats k.big (rec k r))(k:QK)(r:List Tok)(hn:dw k r≤n+1):GD r k.eats k.big (bz N rec k r):=by
 cases k with
 | S=>
  refine(h .A r (by simp only[dw,QK.cost]at *;omega)).bind fun s r1 h1 h2=>?_;simp only[QK.eats,QK.big]at h1 h2;exact(h (.Sp [s]) r1 (by simp only[dw,QK.cost]at *;omega)).weak (by simp only[QK.eats];omega) (by simp[QK.big,cj];omega)
 | A=>
  refine(h .D r (by simp only[dw,QK.cost]at *;omega)).bind fun s r1 h1 h2=>?_;simp only[QK.eats,QK.big]at h1 h2;exact(h (.Ap [s]) r1 (by simp only[dw,QK.cost]at *;omega)).weak (by simp only[QK.eats];omega) (by simp[QK.big,cj];omega)
 | D=>
  refine(h .H r (by simp only[dw,QK.cost]at *;omega)).bind fun s r1 h1 h2=>?_;simp only[QK.eats,QK.big]at h1 h2;exact(h (.Dp s) r1 (by simp only[dw,QK.cost]at *;omega)).weak (by simp only[QK.eats];omega) (by simp only[QK.big];omega)
 | R=>
  refine(h .U r (by simp only[dw,QK.cost]at *;omega)).bind fun s r1 h1 h2=>?_;simp only[QK.eats,QK.big]at h1 h2;exact(h (.Rp s) r1 (by simp only[dw,QK.cost]at *;omega)).weak (by simp only[QK.eats];omega) (by simp only[QK.big];omega)
 | Sp l=>
  simp only[bz];cases h0:acc orW r with
  | none=>exact pI (by simp only[QK.eats];omega) (by have:=BU 4 l;simp only[QK.big];omega)
  | some r1=>
   have l1:=(ay h0).2;refine(h .A r1 (by simp only[dw,QK.cost]at *;omega)).bind fun s r2 h1 h2=>?_;simp only[QK.eats,QK.big]at h1 h2;exact(h (.Sp (l++[s])) r2 (by simp only[dw,QK.cost]at *;omega)).weak (by simp only[QK.eats];omega) (by simp only[QK.big,tL,cj,R7,R6,R8];omega)
 | Ap l=>
  simp only[bz];cases h0:acc kr r with
  | none=>exact pI (by simp only[QK.eats];omega) (by have:=BU 5 l;simp only[QK.big];omega)
  | some r1=>
   have l1:=(ay h0).2;refine(h .D r1 (by simp only[dw,QK.cost]at *;omega)).bind fun s r2 h1 h2=>?_;simp only[QK.eats,QK.big]at h1 h2;exact(h (.Ap (l++[s])) r2 (by simp only[dw,QK.cost]at *;omega)).weak (by simp only[QK.eats];omega) (by simp only[QK.big,tL,cj,R7,R6,R8];omega)
 | Dp s=>
  simp only[bz];cases h0:acc (aE 35 35) r with
  | none=>exact pI (by simp only[QK.eats];omega) (by simp only[QK.big];omega)
  | some r1=>
   have l1:=(ay h0).2
   have last:∀(lo hi:Int) (q:List Tok),q.length+1<r.length->GD r 0 (bd s+2) ((rec .H q).bind fun t r7=>rec (.Dp (nT 2 lo hi [s,t])) r7):=fun lo hi q hq=>by
    refine(h .H q (by simp only[dw,QK.cost]at *;omega)).bind fun t r7 h1 h2=>?_;simp only[QK.eats,QK.big]at h1 h2;exact(h (.Dp _) r7 (by simp only[dw,QK.cost]at *;omega)).weak (by simp only[QK.eats];omega) (by simp only[QK.big,nT,bd,cj,qu];omega)
   simp only;cases h1:acc (aa 91) r1 with
   | some r2=>
    have l2:=(ay h1).2;exact sg fun _ r3 h3=>fr fun r4 h4=>sg fun _ r5 h5=>fr fun r6 h6=>last _ _ r6 (by omega)
   | none=>exact sg fun _ r3 h3=>last _ _ r3 (by omega)
 | H=>
  simp only[bz];cases h0:acc iB r with
  | none=>exact h .R r (by simp only[dw,QK.cost]at *;omega)
  | some r1=>
   have l1:=(ay h0).2;refine fr fun r2 h2=>uH fun e r3 h3 h3'=>fr fun r4 h4=>fr fun r5 h5=>?_;refine(h .H r5 (by simp only[dw,QK.cost]at *;omega)).bind fun s r6 h6 h7=>?_;simp only[QK.eats,QK.big]at h6 h7;exact pI (by simp only[QK.eats];omega) (by simp only[QK.big,bd,cj];omega)
 | Rp s=>
  simp only[bz];cases h0:acc (aa 91) r with
  | none=>exact pI (by simp only[QK.eats];omega) (by simp only[QK.big];omega)
  | some r1=>
   have l1:=(ay h0).2
   have last:∀(lo hi:Int) (q:List Tok),q.length+2<r.length->GD r 0 (bd s+2) (rec (.Rp (nT 3 lo hi [s])) q):=fun lo hi q hq=>
    (h (.Rp _) q (by simp only[dw,QK.cost]at *;omega)).weak (by simp only[QK.eats];omega) (by simp only[QK.big,nT,bd,cj,qu];omega)
   refine fr fun r2 h2=>sg fun lo r3 h3=>?_;cases h4:acc (aa 58) r3 with
   | some r4=>
    have l4:=(ay h4).2;exact sg fun _ r5 h5=>fr fun r6 h6=>last _ _ r6 (by omega)
   | none=>exact fr fun r4 h4=>last _ _ r4 (by omega)
 | U=>
  simp only[bz];cases h0:acc (aa 123) r with
  | some r1=>
   have l1:=(ay h0).2;exact uH fun e r2 h2 h2'=>fr fun r3 h3=>pI (by simp only[QK.eats];omega) (by simp only[QK.big,bd,cj];omega)
  | none=>
   refine fr fun r1 h1=>(h .S r1 (by simp only[dw,QK.cost]at *;omega)).bind fun s r2 h2 h2'=>?_;simp only[QK.eats,QK.big]at h2 h2';cases h3:acc (aa 44) r2 with
   | some r3=>
    have l3:=(ay h3).2;exact J0 fun nm r4 h4=>fr fun r5 h5=>uH fun e r6 h6 h6'=>fr fun r7 h7=>pI (by simp only[QK.eats];omega) (by simp only[QK.big,bd,cj];omega)
   | none=>exact fr fun r3 h3=>pI (by simp only[QK.eats];omega) (by simp only[QK.big];omega)
theorem FM:∀(n:Nat) (k:QK) (r:List Tok),dw k r≤n->GD r k.eats k.big (mw N n k r)
 | 0,k,r,h=>by exfalso;unfold dw at h;cases k<;>simp only[QK.cost]at h<;>omega
 | n+1,k,r,h=>Ju (fun k r=>FM n k r) k r h
end
def qp(N:Int)(k:QK)(r:List Tok):QR Ts:=mw N (40*r.length+12) k r
section
variable {N : Int}
theorem v6(k:QK)(r:List Tok):GD r k.eats k.big (qp N k r):=FM _ k r (by unfold dw;cases k<;>simp only[QK.cost]<;>omega)
theorem FO(n:Nat)(k:QK)(r:List Tok):(mw N n k r).le (qp N k r):=by
 rcases Nat.le_total n (40*r.length+12)with h|h
 .exact m5 h k r
 .rcases m5 (N:=N) h k r with e|e
  .exact absurd e (v6 k r).ne
  .exact .inr e.symm
theorem dh(k:QK)(r:List Tok):qp N k r=bz N (qp N) k r:=by
 have h1:=qz (N:=N) (FO (N:=N) (40*r.length+12)) k r;have h2:=m5 (N:=N) (Nat.le_succ (40*r.length+12)) k r;rcases h2 with e|e
 .exact absurd e (v6 k r).ne
 .rcases h1 with g|g
  .exact absurd (e.trans g) (v6 k r).ne
  .exact e.trans g
theorem oW{k:QK}{r r1:List Tok}{s:Ts}(h:qp N k r=.ok s r1):r1.length+k.eats≤r.length:=((v6 k r).ok s r1 h).1
theorem rx{r r1:List Tok}{s:Ts}(h:qp N .S r=.ok s r1):bd s≤2*r.length:=by
 have:=((v6 .S r).ok s r1 h).2;simp only[QK.big]at this;omega
end
def i6(N:Int)(r:List Tok):QR Pr:=cz N rW r fun r1=>iy N r1 fun nm r2=>cz N (aa 58) r2 fun r3=>match acc jh r3 with
 | some r4=>(qp N .S r4).bind fun t r5=>cz N (aa 59) r5 fun r6=>.ok ⟨nm,true,false,zT,t⟩ r6
 | none=>(qp N .S r3).bind fun c r4=>cz N (aa 124) r4 fun r5=>match acc (aE 45 62) r5 with
  | some r6=>(qp N .S r6).bind fun t r7=>cz N (aa 59) r7 fun r8=>.ok ⟨nm,false,true,c,t⟩ r8
  | none=>cz N (aE 61 62) r5 fun r6=>(qp N .S r6).bind fun t r7=>cz N (aa 59) r7 fun r8=>.ok ⟨nm,false,false,c,t⟩ r8
end Go.Proofs.YthekkgfmagliiaaGreatDoor
namespace Go.Proofs.YthekkgfmagliiaaGreatDoor
open Go.RowKit
def ln1(t:Tok):Tok:=⟨t.kind,t.num,t.text,1⟩
theorem gY:SameTok ln1:=⟨fun _=>rfl,fun _=>rfl,fun _=>rfl⟩
def Sq(r r':List Tok):Prop:=r.map ln1=r'.map ln1
theorem Sq.refl(r:List Tok):Sq r r:=Eq.refl _
theorem Sq.len{r r':List Tok}(h:Sq r r'):r.length=r'.length:=by have:=congrArg List.length h;simpa using this
theorem iq(m:ByteArray){r r':List Tok}(h:Sq r r'):(acc m r=none/\acc m r'=none)\/∃a b,acc m r=some a/\acc m r'=some b/\Sq a b:=by
 have h1:=cu gY m r;have h2:=cu gY m r';rw[show r.map ln1=r'.map ln1 from h,h2]at h1;cases e1:acc m r<;>cases e2:acc m r'<;>rw[e1,e2]at h1
 .exact .inl ⟨rfl,rfl⟩
 .cases h1
 .cases h1
 .simp only[R9,Option.some.injEq]at h1;exact .inr ⟨_,_,rfl,rfl,h1.symm⟩
theorem Ga{r r':List Tok}(h:Sq r r'):(bA r=none/\bA r'=none)\/∃s a b,bA r=some (s,a)/\bA r'=some (s,b)/\Sq a b:=by
 have h1:=lZ gY r;have h2:=lZ gY r';rw[show r.map ln1=r'.map ln1 from h,h2]at h1;cases e1:bA r<;>cases e2:bA r'<;>rw[e1,e2]at h1
 .exact .inl ⟨rfl,rfl⟩
 .cases h1
 .cases h1
 .rename_i p p';obtain⟨s,a⟩:=p;obtain⟨s',a'⟩:=p';simp only[R9,Option.some.injEq,Prod.mk.injEq]at h1;obtain⟨rfl,h1⟩:=h1;exact .inr ⟨_,_,_,rfl,rfl,h1.symm⟩
theorem JG{r r':List Tok}(h:Sq r r'):(ch r=none/\ch r'=none)\/∃s a b,ch r=some (s,a)/\ch r'=some (s,b)/\Sq a b:=by
 have h1:=nQ gY r;have h2:=nQ gY r';rw[show r.map ln1=r'.map ln1 from h,h2]at h1;cases e1:ch r<;>cases e2:ch r'<;>rw[e1,e2]at h1
 .exact .inl ⟨rfl,rfl⟩
 .cases h1
 .cases h1
 .rename_i p p';obtain⟨s,a⟩:=p;obtain⟨s',a'⟩:=p';simp only[R9,Option.some.injEq,Prod.mk.injEq]at h1;obtain⟨rfl,h1⟩:=h1;exact .inr ⟨_,_,_,rfl,rfl,h1.symm⟩
section
variable {α β : Type}
def SR(x y:QR α):Prop:=match x,y with
 | .out,.out=>True
 | .late,.late=>True
 | .bad _ e,.bad _ e'=>e=e'
 | .ok v r,.ok v' r'=>v=v'/\Sq r r'
 | _,_=>False
variable {N N' : Int} {r r' : List Tok}
theorem SR.ok_left{x y:QR α}{v:α}{a:List Tok}(h:SR x y)(hx:x=.ok v a):∃b,y=.ok v b/\Sq a b:=by
 subst hx;cases y with
 | ok v' b=>obtain⟨h1,h2⟩:=h;subst h1;exact⟨b,rfl,h2⟩
 | _=>exact h.elim
theorem ei{x y:QR β}{f g:β->List Tok->QR α}(h:SR x y)(hf:∀v a b,Sq a b->SR (f v a) (g v b)):SR (x.bind f) (y.bind g):=by
 cases x<;>cases y<;>first|exact h.elim|exact h|skip
 obtain⟨h1,h2⟩:=h;subst h1;exact hf _ _ _ h2
theorem uV(h:Sq r r'):SR (kb N r:QR α) (kb N' r'):=by
 have hl:=h.len;cases r<;>cases r'<;>first|(simp at hl;done)|exact rfl
theorem cQ{m:ByteArray}{f g:List Tok->QR α}(h:Sq r r')(hf:∀a b,Sq a b->SR (f a) (g b)):SR (cz N m r f) (cz N' m r' g):=by
 unfold cz;rcases iq m h with⟨e1,e2⟩|⟨a,b,e1,e2,h1⟩
 .rw[e1,e2];exact uV h
 .rw[e1,e2];exact hf a b h1
theorem sQ{f g:Int->List Tok->QR α}(h:Sq r r')(hf:∀n a b,Sq a b->SR (f n a) (g n b)):SR (lB N r f) (lB N' r' g):=by
 unfold lB;rcases JG h with⟨e1,e2⟩|⟨n,a,b,e1,e2,h1⟩
 .rw[e1,e2];exact uV h
 .rw[e1,e2];exact hf n a b h1
theorem AW{f g:ByteArray->List Tok->QR α}(h:Sq r r')(hf:∀n a b,Sq a b->SR (f n a) (g n b)):SR (iy N r f) (iy N' r' g):=by
 unfold iy;rcases Ga h with⟨e1,e2⟩|⟨n,a,b,e1,e2,h1⟩
 .rw[e1,e2];exact uV h
 .rw[e1,e2];exact hf n a b h1
theorem vm{f g:Ex->List Tok->QR α}(h:Sq r r')(hf:∀n a b,Sq a b->SR (f n a) (g n b)):SR (i8 N r f) (i8 N' r' g):=by
 have h1:=Ba gY .W r;have h2:=Ba gY .W r';rw[show r.map ln1=r'.map ln1 from h,h2]at h1;unfold i8;cases e1:par .W r<;>cases e2:par .W r'<;>rw[e1,e2]at h1<;>simp only[PR.mapT]at h1<;>first|exact absurd e1 (eV _ _)|cases h1|skip
 .rename_i c a c' b;simp only[PR.bad.injEq]at h1;obtain⟨rfl,h1⟩:=h1;have hl:a.length=b.length:=(Sq.len h1).symm;simp only;unfold II;split
  .exact rfl
  .cases a<;>cases b<;>first|(simp at hl;done)|exact rfl
 .rename_i e a e' b;simp only[PR.ok.injEq]at h1;obtain⟨rfl,h1⟩:=h1;simp only;split
  .exact hf _ _ _ h1.symm
  .trivial
theorem Jf{rec rec':QK->List Tok->QR Ts}(h:∀k r r',Sq r r'->SR (rec k r) (rec' k r'))(k:QK){r r':List Tok}(hr:Sq r r'):SR (bz N rec k r) (bz N' rec' k r'):=by
 cases k with
 | S=>exact ei (h _ _ _ hr) fun _ _ _ h1=>h _ _ _ h1
 | A=>exact ei (h _ _ _ hr) fun _ _ _ h1=>h _ _ _ h1
 | D=>exact ei (h _ _ _ hr) fun _ _ _ h1=>h _ _ _ h1
 | R=>exact ei (h _ _ _ hr) fun _ _ _ h1=>h _ _ _ h1
 | Sp l=>
  simp only[bz];rcases iq orW hr with⟨e1,e2⟩|⟨a,b,e1,e2,h1⟩<;>rw[e1,e2]
  .exact⟨rfl,hr⟩
  .exact ei (h _ _ _ h1) fun _ _ _ h1=>h _ _ _ h1
 | Ap l=>
  simp only[bz];rcases iq kr hr with⟨e1,e2⟩|⟨a,b,e1,e2,h1⟩<;>rw[e1,e2]
  .exact⟨rfl,hr⟩
  .exact ei (h _ _ _ h1) fun _ _ _ h1=>h _ _ _ h1
 | Dp s=>
  simp only[bz];rcases iq (aE 35 35) hr with⟨e1,e2⟩|⟨a,b,e1,e2,h1⟩<;>rw[e1,e2]
  .exact⟨rfl,hr⟩
  .simp only;rcases iq (aa 91) h1 with⟨e1,e2⟩|⟨a2,b2,e1,e2,h2⟩<;>rw[e1,e2]
   .exact sQ h1 fun _ _ _ h3=>ei (h _ _ _ h3) fun _ _ _ h1=>h _ _ _ h1
   .exact sQ h2 fun _ _ _ h3=>cQ h3 fun _ _ h4=>sQ h4 fun _ _ _ h5=>cQ h5 fun _ _ h6=>ei (h _ _ _ h6) fun _ _ _ h1=>h _ _ _ h1
 | H=>
  simp only[bz];rcases iq iB hr with⟨e1,e2⟩|⟨a,b,e1,e2,h1⟩<;>rw[e1,e2]
  .exact h _ _ _ hr
  .exact cQ h1 fun _ _ h3=>vm h3 fun _ _ _ h4=>cQ h4 fun _ _ h5=>cQ h5 fun _ _ h6=>ei (h _ _ _ h6) fun _ _ _ h1=>⟨rfl,h1⟩
 | Rp s=>
  simp only[bz];rcases iq (aa 91) hr with⟨e1,e2⟩|⟨a,b,e1,e2,h1⟩<;>rw[e1,e2]
  .exact⟨rfl,hr⟩
  .refine cQ h1 fun _ _ h3=>sQ h3 fun _ a b h4=>?_;rcases iq (aa 58) h4 with⟨e1,e2⟩|⟨a2,b2,e1,e2,h5⟩<;>rw[e1,e2]
   .exact cQ h4 fun _ _ h6=>h _ _ _ h6
   .exact sQ h5 fun _ _ _ h6=>cQ h6 fun _ _ h7=>h _ _ _ h7
 | U=>
  simp only[bz];rcases iq (aa 123) hr with⟨e1,e2⟩|⟨a,b,e1,e2,h1⟩<;>rw[e1,e2]
  .refine cQ hr fun _ _ h3=>ei (h _ _ _ h3) fun s a b h4=>?_;rcases iq (aa 44) h4 with⟨e1,e2⟩|⟨a2,b2,e1,e2,h5⟩<;>rw[e1,e2]
   .exact cQ h4 fun _ _ h6=>⟨rfl,h6⟩
   .exact AW h5 fun _ _ _ h6=>cQ h6 fun _ _ h7=>vm h7 fun _ _ _ h8=>cQ h8 fun _ _ h9=>⟨rfl,h9⟩
  .exact vm h1 fun _ _ _ h3=>cQ h3 fun _ _ h4=>⟨rfl,h4⟩
theorem Bn:∀(n:Nat) (k:QK) (r r':List Tok),Sq r r'->SR (mw N n k r) (mw N' n k r')
 | 0,_,_,_,_=>trivial
 | n+1,k,_,_,h=>Jf (Bn n) k h
theorem yf(k:QK){r r':List Tok}(h:Sq r r'):SR (qp N k r) (qp N' k r'):=by
 unfold qp;rw[h.len];exact Bn _ k r r' h
theorem A2{r r':List Tok}(h:Sq r r'):SR (i6 N r) (i6 N' r'):=by
 refine cQ h fun _ _ h1=>AW h1 fun _ _ _ h2=>cQ h2 fun a b h3=>?_;rcases iq jh h3 with⟨e1,e2⟩|⟨a2,b2,e1,e2,h4⟩<;>rw[e1,e2]
 .refine ei (yf _ h3) fun c a b h4=>cQ h4 fun a b h5=>?_;rcases iq (aE 45 62) h5 with⟨e1,e2⟩|⟨a2,b2,e1,e2,h6⟩<;>rw[e1,e2]
  .exact cQ h5 fun _ _ h6=>ei (yf _ h6) fun _ _ _ h7=>cQ h7 fun _ _ h8=>⟨rfl,h8⟩
  .exact ei (yf _ h6) fun _ _ _ h7=>cQ h7 fun _ _ h8=>⟨rfl,h8⟩
 .exact ei (yf _ h4) fun _ _ _ h7=>cQ h7 fun _ _ h8=>⟨rfl,h8⟩
variable {q : List Tok}
end
end Go.Proofs.YthekkgfmagliiaaGreatDoor
namespace Go.Proofs.YthekkgfmagliiaaGreatDoor
open Go.RowKit
def qZ(w:ByteArray):List Pc->Pc
 | []=>[]
 | [a]=>a
 | a::b::r=>a++none::some (tw w)::none::qZ w (b::r)
def atP(k:Int)(x:Int×Pc):Pc:=if lvT x.1<k then some (tm (aa 40))::(x.2++[some (tm (aa 41))])else x.2
def nw(lo hi:Int):Pc:=if lo=hi then[some (td lo)]else[some (td lo),some (tm (aa 58)),some (td hi)]
def lC(lo hi:Int):Pc:=if lo=hi then[some (td lo)]else[some (tm (aa 91)),some (td lo),some (tm (aa 58)),some (td hi),some (tm (aa 93))]
def dy(o lo hi:Int)(e:Ex)(n:ByteArray)(xs:List (Int×Pc)):Pc:=
 if o=4 then qZ orW (xs.map (atP 2))
 else if o=5 then qZ kr (xs.map (atP 3))
 else if o=2 then atP 3 (xs.getD 0 (1,[]))++none::some (tm (aE 35 35))::(lC lo hi++none::atP 4 (xs.getD 1 (1,[])))
 else if o=7 then some (tw iB)::none::some (tm (aa 123))::(pcE e++some (tm (aa 125))::none::some (tw inW)::none::atP 4 (xs.getD 0 (1,[])))
 else if o=3 then atP 5 (xs.getD 0 (1,[]))++none::some (tm (aa 91))::some (tm (aa 42))::(nw lo hi++[some (tm (aa 93))])
 else if o=6 then some (tm (aa 40))::((xs.getD 0 (1,[])).2++some (tm (aa 44))::none::some (tn n)::none::some (tm (aa 61))::none::(pcE e++[some (tm (aa 41))]))
 else some (tm (aa 123))::(pcE e++[some (tm (aa 125))])
mutual
def pcS:Ts->Pc
 | .mk o lo hi e n l=>dy o lo hi e n (IG l)
def IG:List Ts->List (Int×Pc)
 | []=>[]
 | s::r=>(s.op,pcS s)::IG r
end
theorem Hh(l:List Ts):IG l=l.map fun s=>(s.op,pcS s):=by
 induction l with
 | nil=>rfl
 | cons a r ih=>simp only[IG,ih,RW]
theorem AQ(s:Ts):pcS s=dy s.op s.lo s.hi s.ex s.name (s.args.map fun a=>(a.op,pcS a)):=by
 cases s;simp only[pcS,Hh,Ts.op,Ts.lo,Ts.hi,Ts.ex,Ts.name,Ts.args]
def qW(k:Int)(s:Ts):Pc:=atP k (s.op,pcS s)
theorem lY(k:Int)(l:List Ts):(l.map fun a=>(a.op,pcS a)).map (atP k)=l.map (qW k):=by rw[R5];rfl
theorem HG{n:Int}(h:0≤n):txt [some (td n)]=tc n:=by
 unfold tc;simp only[txt,td,List.append_nil,uT];obtain⟨k,rfl⟩:=Int.eq_ofNat_of_zero_le h;simp[Lib.itoa]
theorem uZ(t:Tok)(X:Pc):txt (some t::X)=txt [some t]++txt X:=by simp[txt]
theorem xa{lo hi:Int}(h0:0≤lo)(h1:0≤hi):txt (nw lo hi)=jt lo hi/\txt (lC lo hi)=sF lo hi:=by
 have a:=HG h0;have b:=HG h1;unfold nw lC sF jt;split
 .exact⟨a,a⟩
 .constructor
  .rw[uZ,a];show _++58::txt [some (td hi)]=_;rw[b]
  .show 91::txt [some (td lo),some (tm (aa 58)),some (td hi),some (tm (aa 93))]=_;rw[uZ,a];show _::(_++58::txt [some (td hi),some (tm (aa 93))])=_;rw[uZ,b];simp[txt,tm,aa]
theorem nW{k:Int}{o:Int}{X:Pc}{T:Bs}(h:txt X=T):txt (atP k (o,X))=atS k (o,T):=by
 unfold atP atS;simp only;split
 .simp[txt,bT,tm,aa,h]
 .exact h
theorem u6{w:ByteArray}{sp:Bs}(hw:sp=32::(w.data.toList++[32])):∀{l:List Pc} {l':List Bs},l.map txt=l'->txt (qZ w l)=mt sp l'
 | [],_,rfl=>rfl
 | [a],_,rfl=>rfl
 | a::b::r,_,rfl=>by
  have:=u6 hw (l:=b::r) rfl;simp only[RW]at this ⊢;simp only[qZ,bT,txt,mt,this,hw,tw];simp
theorem vu(s:Ts):OkT s->txt (pcS s)=d6 s:=by
 induction s using Ts.ind with
 | h s ih=>
 intro hs;have hn:=hs.nd;have harg:=fun a ha=>ih a ha (hs.arg ha);rw[AQ,vD];rcases hn.sh with⟨o,h⟩|⟨o,⟨a,b,h⟩,h0,h1,h2⟩|⟨o,⟨a,h⟩,h0,h1,h2⟩|⟨o,h0,h1,h2⟩|⟨o,⟨a,h⟩,h0,h1⟩
 .unfold dy dQ;rw[o];simp[txt,bT,tm,aa,bj]
 .have ea:=harg a (by rw[h];simp);have eb:=harg b (by rw[h];simp);unfold dy dQ;rw[o,h];simp[txt,bT,nW ea,nW eb,(xa h0 (show 0≤s.hi by omega)).2,tm,aE]
 .have ea:=harg a (by rw[h];simp);unfold dy dQ;rw[o,h];simp[txt,bT,nW ea,(xa (show 0≤s.lo by omega) (show 0≤s.hi by omega)).1,tm,aa]
 .have hm:∀k:Int,(s.args.map (qW k)).map txt=s.args.map (gM k):=fun k=>by
   rw[R5];exact R0 fun a ha=>nW (harg a ha)
  unfold dy dQ;rcases o with o|o
  .rw[o];simp only[if_true,lY,o9];exact u6 (by decide) (hm 2)
  .rw[o,if_neg (by decide),if_pos rfl,if_neg (by decide),if_pos rfl,lY,o9];exact u6 (by decide) (hm 3)
 .have ea:=harg a (by rw[h];simp);rcases o with o|o
  .unfold dy dQ;rw[o,h];simp[txt,bT,ea,tm,tn,aa,bj,rV]
  .unfold dy dQ;rw[o,h];simp[txt,bT,nW ea,tm,tw,aa,bj,iB,inW]
def eF(s:Ts):List Tok:=tks (pcS s)
def tkS(k:Int)(s:Ts):List Tok:=if lvT s.op<k then tm (aa 40)::(eF s++[tm (aa 41)])else eF s
theorem gx(k:Int)(s:Ts):tks (qW k s)=tkS k s:=by
 unfold qW atP tkS eF;simp only;split
 .simp[tks,dW]
 .rfl
structure StopS(k:Nat)(r:List Tok):Prop where
 o:k≤1->acc orW r=none
 a:k≤2->acc kr r=none
 d:k≤3->acc (aE 35 35) r=none
 b:k≤5->acc (aa 91) r=none
theorem StopS.mono{k j:Nat}{r:List Tok}(h:StopS k r)(hj:k≤j):StopS j r:=⟨fun e=>h.o (by omega),fun e=>h.a (by omega),fun e=>h.d (by omega),fun e=>h.b (by omega)⟩
theorem lR{k:Nat}{t:Tok}(r:List Tok)(h1:k≤1->t.text≠orW)(h2:k≤2->t.text≠kr)(h3:k≤3->t.text≠aE 35 35)(h4:k≤5->t.text≠aa 91):StopS k (t::r):=
 ⟨fun e=>bJ (h1 e),fun e=>bJ (h2 e),fun e=>bJ (h3 e),fun e=>bJ (h4 e)⟩
theorem ug(k:Nat):StopS k []:=⟨fun _=>rfl,fun _=>rfl,fun _=>rfl,fun _=>rfl⟩
theorem lP{m:ByteArray}(h:m∈[aa 41,aa 44,aa 59,aa 124])(k:Nat)(r:List Tok):StopS k (tm m::r):=by
 have hd:∀m,m∈[aa 41,aa 44,aa 59,aa 124]->m≠orW/\m≠kr/\m≠aE 35 35/\m≠aa 91:=by decide +kernel
 obtain⟨h1,h2,h3,h4⟩:=hd m h;exact lR r (fun _=>h1) (fun _=>h2) (fun _=>h3) (fun _=>h4)
theorem wy(r:List Tok):StopS 2 (tw orW::r):=lR r (fun h=>by omega) (fun _=>by decide +kernel) (fun _=>by decide +kernel) (fun _=>by decide +kernel)
theorem tA(r:List Tok):StopS 3 (tw kr::r):=lR r (fun h=>by omega) (fun h=>by omega) (fun _=>by decide +kernel) (fun _=>by decide +kernel)
theorem Ch(r:List Tok):StopS 4 (tm (aE 35 35)::r):=lR r (fun h=>by omega) (fun h=>by omega) (fun h=>by omega) (fun _=>by decide +kernel)
theorem fZ:∀m,m∈[aa 42,aa 59,aa 61,aa 124,aE 35 35,aE 45 62,aE 61 62]->bC (tm m)=true:=by decide +kernel
theorem gC:∀m,m∈[orW,kr,iB,inW,rW,jh]->bC (tw m)=true:=by decide +kernel
def qk(k:Nat):QK:=if k=1 then .S else if k=2 then .A else if k=3 then .D else if k=4 then .H else if k=5 then .R else .U
section
variable {N : Int}
def Bq(N:Int)(k:Nat)(T:List Tok)(s:Ts):Prop:=∀r,StopS k r->qp N (qk k) (T++r)=.ok s r
theorem df{m:ByteArray}(h:bC (tm m)=true){α:Type}(r:List Tok)(f:List Tok->QR α):cz N m (tm m::r) f=f r:=by unfold cz;rw[cC h]
theorem BF{m:ByteArray}(h:bC (tw m)=true){α:Type}(r:List Tok)(f:List Tok->QR α):cz N m (tw m::r) f=f r:=by unfold cz;rw[ol h]
theorem oA{n:Int}(h0:0≤n)(h1:n≤16){α:Type}(r:List Tok)(f:Int->List Tok->QR α):lB N (td n::r) f=f n r:=by
 have hv:=nR h0 (show n≤65535 by omega);unfold lB;have:ch (td n::r)=some (n,r):=by simp only[ch];rw[if_pos ⟨hv,rfl⟩];rfl
 rw[this]
theorem BD{s:ByteArray}(h:bt s=true){α:Type}(r:List Tok)(f:ByteArray->List Tok->QR α):iy N (tn s::r) f=f s r:=by
 unfold iy;have:bA (tn s::r)=some (s,r):=by simp only[bA];rw[if_pos ⟨eO h,rfl⟩];rfl
 rw[this]
theorem sE{e:Ex}(h:aH e=0){m:ByteArray}(hm:m∈[aa 41,aa 125]){α:Type}(r:List Tok)(f:Ex->List Tok->QR α):i8 N (tks (pcE e)++tm m::r) f=f e (tm m::r):=by
 have h1:=(LV e (lc h)).at_ 1 (by omega) (by omega) (tm m::r) (gb (by simp only[List.mem_cons,List.not_mem_nil,or_false]at hm ⊢;rcases hm with rfl|rfl<;>simp) 1 r);rw[tk1]at h1;have h2:par .W (tks (pcE e)++tm m::r)=.ok e (tm m::r):=by rw[GM];exact h1
 unfold i8;rw[h2];simp only;rw[if_pos h]
theorem My{T:List Tok}{s:Ts}{j:Nat}(h:Bq N (j+1) T s)(h1:1≤j)(h2:j≤5)(h3:j=4->∀r,acc iB (T++r)=none):Bq N j T s:=by
 intro r hr;have hn:=h r (hr.mono (Nat.le_succ j))
 match j,h1,h2,h3 with
 | 1,_,_,_=>
  show qp N .S (T++r)=_;have hn:qp N .A (T++r)=.ok s r:=hn;rw[dh];simp only[bz,hn,QR.bind];rw[dh];simp only[bz,hr.o (by omega),mr]
 | 2,_,_,_=>
  show qp N .A (T++r)=_;have hn:qp N .D (T++r)=.ok s r:=hn;rw[dh];simp only[bz,hn,QR.bind];rw[dh];simp only[bz,hr.a (by omega),mr]
 | 3,_,_,_=>
  show qp N .D (T++r)=_;have hn:qp N .H (T++r)=.ok s r:=hn;rw[dh];simp only[bz,hn,QR.bind];rw[dh];simp only[bz,hr.d (by omega)]
 | 4,_,_,h3=>
  show qp N .H (T++r)=_;have hn:qp N .R (T++r)=.ok s r:=hn;rw[dh];simp only[bz,h3 rfl r,hn]
 | 5,_,_,_=>
  show qp N .R (T++r)=_;have hn:qp N .U (T++r)=.ok s r:=hn;rw[dh];simp only[bz,hn,QR.bind];rw[dh];simp only[bz,hr.b (by omega)]
theorem Fj{T:List Tok}{s:Ts}{k0:Nat}(h:Bq N k0 T s)(h6:k0≤6)(h3:4<k0->∀r,acc iB (T++r)=none):∀n k,k0=k+n->1≤k->Bq N k T s
 | 0,k,e,_=>by have:k0=k:=e
               rw[<-this];exact h
 | n+1,k,e,h1=>My (Fj h h6 h3 n (k+1) (by omega) (by omega)) h1 (by omega) fun e=>h3 (by omega)
theorem K8{T:List Tok}{s:Ts}(h:Bq N 1 T s):Bq N 6 (tm (aa 40)::(T++[tm (aa 41)])) s:=by
 intro r hr;show qp N .U _=_;rw[dh];simp only[bz,RS];rw[bJ (t:=tm (aa 40)) (m:=aa 123) (by decide +kernel)];simp only;rw[df (ca _ (by simp))];have:=h (tm (aa 41)::r) (lP (by simp) 1 r);have hp:qk 1=.S:=rfl;rw[hp]at this;simp only[RU,RY,this,QR.bind];rw[bJ (t:=tm (aa 41)) (m:=aa 44) (by decide +kernel)];simp only;rw[df (ca _ (by simp))]
structure RTS(N:Int)(s:Ts):Prop where
 at_:∀k:Nat,1≤k->k≤6->Bq N k (tkS k s) s
 d:∀r,StopS 4 r->qp N .D (tkS 3 s++r)=qp N (.Dp s) r
 r:∀r,qp N .R (tkS 5 s++r)=qp N (.Rp s) r
 nh:∀r,acc iB (tkS 5 s++r)=none
theorem GJ(o:Int):1≤lvT o/\lvT o≤6:=by
 unfold lvT;repeat' split
 all_goals decide
theorem Nv(s:Ts):tkS 1 s=eF s:=by unfold tkS;rw[if_neg (by have:=(GJ s.op).1;omega)]
theorem LA{T:List Tok}{s:Ts}(h:Bq N 4 T s){r:List Tok}(hr:StopS 4 r):qp N .D (T++r)=qp N (.Dp s) r:=by
 have hn:qp N .H (T++r)=.ok s r:=h r hr;rw[dh];simp only[bz,hn,QR.bind]
theorem LD{T:List Tok}{s:Ts}(h:Bq N 6 T s)(r:List Tok):qp N .R (T++r)=qp N (.Rp s) r:=by
 have hn:qp N .U (T++r)=.ok s r:=h r ⟨fun e=>by omega,fun e=>by omega,fun e=>by omega,fun e=>by omega⟩;rw[dh];simp only[bz,hn,QR.bind]
theorem mL{s:Ts}(k0:Nat)(hk:lvT s.op=k0)(hb:Bq N k0 (eF s) s)(hp:4<k0->∀r,acc iB (eF s++r)=none)
 (hd:k0=3->∀r,StopS 4 r->qp N .D (eF s++r)=qp N (.Dp s) r)(hr:k0=5->∀r,qp N .R (eF s++r)=qp N (.Rp s) r):RTS N s:=by
 have hbd:=GJ s.op;rw[hk]at hbd;have plain:=Fj hb (by omega) hp;have b1:Bq N 1 (eF s) s:=plain (k0-1) 1 (by omega) (Nat.le_refl _);have pr:=Fj (K8 b1) (Nat.le_refl 6) fun _ r=>bJ (t:=tm (aa 40)) (by decide +kernel)
 have at_:∀k:Nat,1≤k->k≤6->Bq N k (tkS k s) s:=by
  intro k g1 g2;unfold tkS;rw[hk];split
  .exact pr (6-k) k (by omega) g1
  .exact plain (k0-k) k (by omega) g1
 refine⟨at_,fun r h=>?_,fun r=>?_,fun r=>?_⟩
 .by_cases e:k0=3
  .have:tkS 3 s=eF s:=by unfold tkS;rw[hk,if_neg (by omega)]
   rw[this];exact hd e r h
  .have:tkS 3 s=tkS 4 s:=by
    unfold tkS;rw[hk];by_cases g:(k0:Int)<3
    .rw[if_pos g,if_pos (by omega)]
    .rw[if_neg g,if_neg (by omega)]
   rw[this];exact LA (at_ 4 (by omega) (by omega)) h
 .by_cases e:k0=5
  .have:tkS 5 s=eF s:=by unfold tkS;rw[hk,if_neg (by omega)]
   rw[this];exact hr e r
  .have:tkS 5 s=tkS 6 s:=by
    unfold tkS;rw[hk];by_cases g:(k0:Int)<5
    .rw[if_pos g,if_pos (by omega)]
    .rw[if_neg g,if_neg (by omega)]
   rw[this];exact LD (at_ 6 (by omega) (by omega)) r
 .unfold tkS;rw[hk];split
  .exact bJ (t:=tm (aa 40)) (by decide +kernel)
  .exact hp (by omega) r
theorem uX(w:ByteArray):∀l:List Pc,tks (qZ w l)=match l with | []=>[]|a::r=>tks a++(r.map fun b=>tw w::tks b).flatten
 | []=>rfl
 | [a]=>by simp[qZ]
 | a::b::r=>by
  have:=uX w (b::r);simp only[qZ,dW,tks,this,RW,RX];simp
theorem Kb(l:List Ts)(h:∀a,a∈l->RTS N a):∀(x:List Ts) (r:List Tok),StopS 1 r->qp N (.Sp x) (((l.map (tkS 2)).map fun b=>tw orW::b).flatten++r)=.ok (mr 4 (x++l)) r:=by
 induction l with
 | nil=>
  intro x r hr;rw[dh];simp[bz,hr.o (by omega)]
 | cons a l ih=>
  intro x r hr;have ha:=h a (by simp);have ih:=ih (fun b hb=>h b (by simp[hb]));rw[dh];simp only[RW,RX,RS,RU,bz];rw[ol (gC _ (by simp))];have h2:=ha.at_ 2 (by omega) (by omega)
  have hs:StopS 2 (((l.map (tkS 2)).map fun b=>tw orW::b).flatten++r):=by
   cases l with
   | nil=>exact hr.mono (by omega)
   | cons b l=>simp only[RW,RX,RS];exact wy _
  have h3:qp N .A (tkS 2 a++(((l.map (tkS 2)).map fun b=>tw orW::b).flatten++r))=.ok a _:=h2 _ hs;simp only;rw[h3];simp only[QR.bind];rw[ih (x++[a]) r hr];simp
theorem H5(l:List Ts)(h:∀a,a∈l->RTS N a):∀(x:List Ts) (r:List Tok),StopS 2 r->qp N (.Ap x) (((l.map (tkS 3)).map fun b=>tw kr::b).flatten++r)=.ok (mr 5 (x++l)) r:=by
 induction l with
 | nil=>
  intro x r hr;rw[dh];simp[bz,hr.a (by omega)]
 | cons a l ih=>
  intro x r hr;have ha:=h a (by simp);have ih:=ih (fun b hb=>h b (by simp[hb]));rw[dh];simp only[RW,RX,RS,RU,bz];rw[ol (gC _ (by simp))];have h2:=ha.at_ 3 (by omega) (by omega)
  have hs:StopS 3 (((l.map (tkS 3)).map fun b=>tw kr::b).flatten++r):=by
   cases l with
   | nil=>exact hr.mono (by omega)
   | cons b l=>simp only[RW,RX,RS];exact tA _
  have h3:qp N .D (tkS 3 a++(((l.map (tkS 3)).map fun b=>tw kr::b).flatten++r))=.ok a _:=h2 _ hs;simp only;rw[h3];simp only[QR.bind];rw[ih (x++[a]) r hr];simp
theorem Ts.ext{s:Ts}{o lo hi:Int}{e:Ex}{n:ByteArray}{l:List Ts}(h1:s.op=o)(h2:s.lo=lo)(h3:s.hi=hi)(h4:s.ex=e)(h5:s.name=n)(h6:s.args=l):Ts.mk o lo hi e n l=s:=by
 cases s;simp only[Ts.op,Ts.lo,Ts.hi,Ts.ex,Ts.name,Ts.args]at *;subst h1 h2 h3 h4 h5 h6;rfl
theorem sJ{o:Int}:∀{l:List Ts},2≤l.length->mr o l=nT o 0 0 l
 | [],h=>by simp at h
 | [_],h=>by simp at h
 | _::_::_,_=>rfl
theorem Jd(s:Ts):OkT s->RTS N s:=by
 induction s using Ts.ind with
 | h s ih=>
 intro hs;have hn:=hs.nd;have harg:=fun a ha=>ih a ha (hs.arg ha);have htok:eF s=tks (dy s.op s.lo s.hi s.ex s.name (s.args.map fun a=>(a.op,pcS a))):=by unfold eF;rw[AQ]
 rcases hn.sh with⟨o,h,l0,h0⟩|⟨o,⟨a,b,h⟩,h0,h1,h2⟩|⟨o,⟨a,h⟩,h0,h1,h2⟩|⟨o,h0,h1,h2,h2'⟩|⟨o,⟨a,h⟩,h0,h1⟩
 .
  have hT:eF s=tm (aa 123)::(tks (pcE s.ex)++[tm (aa 125)]):=by
   rw[htok];unfold dy;rw[o];simp[tks,dW]
  refine mL 6 (by rw[o];rfl) (fun r hr=>?_) (fun _ r=>?_) (fun e=>by omega) (fun e=>by omega)
  .show qp N .U _=_;rw[hT,dh];simp only[bz,RS,RU,RY,RZ];rw[cC (ca _ (by simp))];simp only;rw[sE (hn.ex (.inl o)) (by simp),df (ca _ (by simp))];rw[Ts.ext (s:=s) o l0 h0 rfl (hn.zn (by omega)) h]
  .rw[hT];exact bJ (t:=tm (aa 123)) (by decide +kernel)
 .
  have ra:=harg a (by rw[h];simp);have rb:=harg b (by rw[h];simp)
  have hT:eF s=tkS 3 a++tm (aE 35 35)::(tks (lC s.lo s.hi)++tkS 4 b):=by
   have e1:=gx 3 a;have e2:=gx 4 b;unfold qW at e1 e2;rw[htok];unfold dy;rw[o,h];simp[tks,dW,e1,e2]
  have hS:Ts.mk 2 s.lo s.hi zEx ⟨#[]⟩ [a,b]=s:=Ts.ext o rfl rfl (hn.zx (by omega)) (hn.zn (by omega)) h
  have key:∀r,StopS 4 r->qp N .D (eF s++r)=qp N (.Dp s) r:=by
   intro r hr;rw[hT];simp only[RU,RS];rw[ra.d _ (Ch _),dh];simp only[bz];rw[cC (fZ _ (by simp))];have hB:qp N .H (tkS 4 b++r)=.ok b r:=rb.at_ 4 (by omega) (by omega) r hr;simp only;unfold lC;by_cases he:s.lo=s.hi
   .rw[if_pos he];simp only[tks,RS,RZ];rw[qM];simp only;rw[oA h0 (by omega),hB];simp only[QR.bind,nT];rw[show Ts.mk 2 s.lo s.lo zEx ⟨#[]⟩ [a,b]=s from(by have h9:=hS;rw[<-he]at h9;exact h9)]
   .rw[if_neg he];simp only[tks,RS,RZ];rw[cC (ca _ (by simp))];simp only;rw[oA h0 (by omega),df (ca _ (by simp)),oA (by omega) h2,df (ca _ (by simp)),hB];simp only[QR.bind,nT];rw[hS]
  refine mL 3 (by rw[o];rfl) (fun r hr=>?_) (fun e=>by omega) (fun _=>key) (fun e=>by omega);show qp N .D _=_;rw[key r (hr.mono (by omega)),dh];simp only[bz,hr.d (by omega)]
 .
  have ra:=harg a (by rw[h];simp)
  have hT:eF s=tkS 5 a++tm (aa 91)::tm (aa 42)::(tks (nw s.lo s.hi)++[tm (aa 93)]):=by
   have e1:=gx 5 a;unfold qW at e1;rw[htok];unfold dy;rw[o,h];simp[tks,dW,e1]
  have hS:Ts.mk 3 s.lo s.hi zEx ⟨#[]⟩ [a]=s:=Ts.ext o rfl rfl (hn.zx (by omega)) (hn.zn (by omega)) h
  have key:∀r,qp N .R (eF s++r)=qp N (.Rp s) r:=by
   intro r;rw[hT];simp only[RU,RS];rw[ra.r,dh];simp only[bz];rw[cC (ca _ (by simp))];simp only;rw[df (fZ _ (by simp))];unfold nw;by_cases he:s.lo=s.hi
   .rw[if_pos he];simp only[tks,RS,RZ];rw[oA (by omega) (by omega),bJ (t:=tm (aa 93)) (m:=aa 58) (by decide +kernel)];simp only;rw[df (ca _ (by simp))];simp only[nT];rw[show Ts.mk 3 s.lo s.lo zEx ⟨#[]⟩ [a]=s from(by have h9:=hS;rw[<-he]at h9;exact h9)]
   .rw[if_neg he];simp only[tks,RS,RZ];rw[oA (by omega) (by omega),cC (ca _ (by simp))];simp only;rw[oA (by omega) h2,df (ca _ (by simp))];simp only[nT];rw[hS]
  have hno:∀r,acc iB (eF s++r)=none:=fun r=>by
   rw[hT];simp only[RU];exact ra.nh _
  refine mL 5 (by rw[o];rfl) (fun r hr=>?_) (fun _=>hno) (fun e=>by omega) (fun _=>key);show qp N .R _=_;rw[key r,dh];simp only[bz,hr.b (by omega)]
 .
  have hm:∀k:Int,((s.args.map (qW k)).map tks)=s.args.map (tkS k):=fun k=>by rw[R5];exact R0 fun a _=>gx k a
  obtain⟨a,l,hl⟩:∃a l,s.args=a::l:=by
   cases hs:s.args with
   | nil=>rw[hs]at h0;simp at h0
   | cons a l=>exact⟨a,l,rfl⟩
  have ra:=harg a (by rw[hl];simp);have rl:∀b,b∈l->RTS N b:=fun b hb=>harg b (by rw[hl];simp[hb]);rcases o with o|o
  .have hT:eF s=tkS 2 a++((l.map (tkS 2)).map fun b=>tw orW::b).flatten:=by
    rw[htok];unfold dy;rw[o,if_pos rfl,lY,hl];rw[uX];simp only[RW,gx,R5];congr 2;exact R0 fun b _=>by simp only[Function.comp,gx]
   have hS:Ts.mk 4 0 0 zEx ⟨#[]⟩ (a::l)=s:=Ts.ext o h2 h2' (hn.zx (by omega)) (hn.zn (by omega)) hl;refine mL 1 (by rw[o];rfl) (fun r hr=>?_) (fun e=>by omega) (fun e=>by omega) (fun e=>by omega);show qp N .S _=_;rw[hT,dh]
   have hs:StopS 2 (((l.map (tkS 2)).map fun b=>tw orW::b).flatten++r):=by
    cases l with
    | nil=>exact hr.mono (by omega)
    | cons b l=>simp only[RW,RX,RS];exact wy _
   have h3:qp N .A (tkS 2 a++(((l.map (tkS 2)).map fun b=>tw orW::b).flatten++r))=.ok a _:=ra.at_ 2 (by omega) (by omega) _ hs;simp only[bz,RU];rw[h3];simp only[QR.bind];rw[Kb l rl [a] r hr,RY,sJ (by rw[<-hl];exact h0)];simp only[nT];rw[hS]
  .have hT:eF s=tkS 3 a++((l.map (tkS 3)).map fun b=>tw kr::b).flatten:=by
    rw[htok];unfold dy;rw[o,if_neg (by decide),if_pos rfl,lY,hl];rw[uX];simp only[RW,gx,R5];congr 2;exact R0 fun b _=>by simp only[Function.comp,gx]
   have hS:Ts.mk 5 0 0 zEx ⟨#[]⟩ (a::l)=s:=Ts.ext o h2 h2' (hn.zx (by omega)) (hn.zn (by omega)) hl;refine mL 2 (by rw[o];rfl) (fun r hr=>?_) (fun e=>by omega) (fun e=>by omega) (fun e=>by omega);show qp N .A _=_;rw[hT,dh]
   have hs:StopS 3 (((l.map (tkS 3)).map fun b=>tw kr::b).flatten++r):=by
    cases l with
    | nil=>exact hr.mono (by omega)
    | cons b l=>simp only[RW,RX,RS];exact tA _
   have h3:qp N .D (tkS 3 a++(((l.map (tkS 3)).map fun b=>tw kr::b).flatten++r))=.ok a _:=ra.at_ 3 (by omega) (by omega) _ hs;simp only[bz,RU];rw[h3];simp only[QR.bind];rw[H5 l rl [a] r hr,RY,sJ (by rw[<-hl];exact h0)];simp only[nT];rw[hS]
 .
  have ra:=harg a (by rw[h];simp);rcases o with o|o
  .have hT:eF s=tm (aa 40)::(eF a++tm (aa 44)::tn s.name::tm (aa 61)::(tks (pcE s.ex)++[tm (aa 41)])):=by
    rw[htok];unfold dy;rw[o,h];simp[tks,dW,eF]
   refine mL 6 (by rw[o];rfl) (fun r hr=>?_) (fun _ r=>?_) (fun e=>by omega) (fun e=>by omega)
   .show qp N .U _=_;rw[hT,dh];simp only[bz,RS,RU,RY,RZ];rw[bJ (t:=tm (aa 40)) (m:=aa 123) (by decide +kernel)];simp only;rw[df (ca _ (by simp))];have h3:=ra.at_ 1 (by omega) (by omega) _ (lP (m:=aa 44) (by simp) 1 (tn s.name::tm (aa 61)::(tks (pcE s.ex)++tm (aa 41)::r)));rw[show tkS ((1:Nat):Int) a=eF a from Nv a]at h3;have h3:qp N .S (eF a++tm (aa 44)::tn s.name::tm (aa 61)::(tks (pcE s.ex)++tm (aa 41)::r))=_:=h3;rw[h3];simp only[QR.bind];rw[cC (ca _ (by simp))];simp only;rw[BD (hn.nm o),df (fZ _ (by simp)),sE (hn.ex (.inr (.inl o))) (by simp),df (ca _ (by simp))];rw[Ts.ext (s:=s) o h0 h1 rfl rfl h]
   .rw[hT];exact bJ (t:=tm (aa 40)) (by decide +kernel)
  .have hT:eF s=tw iB::tm (aa 123)::(tks (pcE s.ex)++tm (aa 125)::tw inW::tkS 4 a):=by
    have e1:=gx 4 a;unfold qW at e1;rw[htok];unfold dy;rw[o,h];simp[tks,dW,e1]
   refine mL 4 (by rw[o];rfl) (fun r hr=>?_) (fun e=>by omega) (fun e=>by omega) (fun e=>by omega);show qp N .H _=_;rw[hT,dh];simp only[bz,RS,RU];rw[ol (gC _ (by simp))];simp only;rw[df (ca _ (by simp)),sE (hn.ex (.inr (.inr o))) (by simp),df (ca _ (by simp)),BF (gC _ (by simp))];have h3:qp N .H (tkS 4 a++r)=.ok a r:=ra.at_ 4 (by omega) (by omega) r hr;rw[h3];simp only[QR.bind];rw[Ts.ext (s:=s) o h0 h1 rfl (hn.zn (by omega)) h]
end
end Go.Proofs.YthekkgfmagliiaaGreatDoor
