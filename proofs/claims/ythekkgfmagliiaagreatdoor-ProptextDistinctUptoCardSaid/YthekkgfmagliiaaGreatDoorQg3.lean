import Derived.Test.YthekkgfmagliiaaGreatDoorQg2
set_option linter.unusedVariables false
set_option linter.unusedSimpArgs false
set_option linter.unusedSectionVars false
namespace Go.Proofs.YthekkgfmagliiaaGreatDoor
open Go.RowKit
def ln1(t:Tok):Tok:=⟨t.kind,t.num,t.text,1⟩
theorem fQ:SameTok ln1:=⟨fun _=>rfl,fun _=>rfl,fun _=>rfl⟩
def Sq(r r':List Tok):Prop:=r.map ln1=r'.map ln1
theorem Sq.len{r r':List Tok}(h:Sq r r'):r.length=r'.length:=by have:=congrArg List.length h;simpa using this
theorem fU(m:ByteArray){r r':List Tok}(h:Sq r r'):(acc m r=none∧acc m r'=none)∨∃a b,acc m r=some a∧acc m r'=some b∧Sq a b:=by
 have h1:=bT fQ m r;have h2:=bT fQ m r';rw[show r.map ln1=r'.map ln1 from h,h2]at h1;cases e1:acc m r<;>cases e2:acc m r'<;>rw[e1,e2]at h1
 ·exact .inl ⟨rfl,rfl⟩
 ·cases h1
 ·cases h1
 ·simp only[Option.map_some,Option.some.injEq]at h1;exact .inr ⟨_,_,rfl,rfl,h1.symm⟩
theorem Er{r r':List Tok}(h:Sq r r'):(cD r=none∧cD r'=none)∨∃s a b,cD r=some (s,a)∧cD r'=some (s,b)∧Sq a b:=by
 have h1:=jP fQ r;have h2:=jP fQ r';rw[show r.map ln1=r'.map ln1 from h,h2]at h1;cases e1:cD r<;>cases e2:cD r'<;>rw[e1,e2]at h1
 ·exact .inl ⟨rfl,rfl⟩
 ·cases h1
 ·cases h1
 ·rename_i p p';obtain⟨s,a⟩:=p;obtain⟨s',a'⟩:=p';simp only[Option.map_some,Option.some.injEq,Prod.mk.injEq]at h1;obtain⟨rfl,h1⟩:=h1;exact .inr ⟨_,_,_,rfl,rfl,h1.symm⟩
theorem Fk{r r':List Tok}(h:Sq r r'):(dX r=none∧dX r'=none)∨∃s a b,dX r=some (s,a)∧dX r'=some (s,b)∧Sq a b:=by
 have h1:=lC fQ r;have h2:=lC fQ r';rw[show r.map ln1=r'.map ln1 from h,h2]at h1;cases e1:dX r<;>cases e2:dX r'<;>rw[e1,e2]at h1
 ·exact .inl ⟨rfl,rfl⟩
 ·cases h1
 ·cases h1
 ·rename_i p p';obtain⟨s,a⟩:=p;obtain⟨s',a'⟩:=p';simp only[Option.map_some,Option.some.injEq,Prod.mk.injEq]at h1;obtain⟨rfl,h1⟩:=h1;exact .inr ⟨_,_,_,rfl,rfl,h1.symm⟩
section
variable {α β : Type}
def SR(x y:QR α):Prop:=match x,y with
 | .out,.out=>True
 | .late,.late=>True
 | .bad _ e,.bad _ e'=>e=e'
 | .ok v r,.ok v' r'=>v=v'∧Sq r r'
 | _,_=>False
variable {N N' : Int} {r r' : List Tok}
theorem SR.ok_left{x y:QR α}{v:α}{a:List Tok}(h:SR x y)(hx:x=.ok v a):∃b,y=.ok v b∧Sq a b:=by
 subst hx;cases y with
 | ok v' b=>obtain⟨h1,h2⟩:=h;subst h1;exact⟨b,rfl,h2⟩
 | _=>exact h.elim
theorem dM{x y:QR β}{f g:β→List Tok→QR α}(h:SR x y)(hf:∀v a b,Sq a b→SR (f v a) (g v b)):SR (x.bind f) (y.bind g):=by
 cases x<;>cases y<;>first|exact h.elim|exact h|skip
 obtain⟨h1,h2⟩:=h;subst h1;exact hf _ _ _ h2
theorem r9(h:Sq r r'):SR (i7 N r:QR α) (i7 N' r'):=by
 have hl:=h.len;cases r<;>cases r'<;>first|(simp at hl;done)|exact rfl
theorem cr{m:ByteArray}{f g:List Tok→QR α}(h:Sq r r')(hf:∀a b,Sq a b→SR (f a) (g b)):SR (cx N m r f) (cx N' m r' g):=by
 unfold cx;rcases fU m h with⟨e1,e2⟩|⟨a,b,e1,e2,h1⟩
 ·rw[e1,e2];exact r9 h
 ·rw[e1,e2];exact hf a b h1
theorem py{f g:Int→List Tok→QR α}(h:Sq r r')(hf:∀n a b,Sq a b→SR (f n a) (g n b)):SR (kQ N r f) (kQ N' r' g):=by
 unfold kQ;rcases Fk h with⟨e1,e2⟩|⟨n,a,b,e1,e2,h1⟩
 ·rw[e1,e2];exact r9 h
 ·rw[e1,e2];exact hf n a b h1
theorem yb{f g:ByteArray→List Tok→QR α}(h:Sq r r')(hf:∀n a b,Sq a b→SR (f n a) (g n b)):SR (iZ N r f) (iZ N' r' g):=by
 unfold iZ;rcases Er h with⟨e1,e2⟩|⟨n,a,b,e1,e2,h1⟩
 ·rw[e1,e2];exact r9 h
 ·rw[e1,e2];exact hf n a b h1
theorem sm{f g:Ex→List Tok→QR α}(h:Sq r r')(hf:∀n a b,Sq a b→SR (f n a) (g n b)):SR (io N r f) (io N' r' g):=by
 have h1:=xB fQ .W r;have h2:=xB fQ .W r';rw[show r.map ln1=r'.map ln1 from h,h2]at h1;unfold io;cases e1:par .W r<;>cases e2:par .W r'<;>rw[e1,e2]at h1<;>simp only[PR.mapT]at h1<;>first|exact absurd e1 (oA _ _)|cases h1|skip
 ·rename_i c a c' b;simp only[PR.bad.injEq]at h1;obtain⟨rfl,h1⟩:=h1;have hl:a.length=b.length:=(Sq.len h1).symm;simp only;unfold Jq;split
  ·exact rfl
  ·cases a<;>cases b<;>first|(simp at hl;done)|exact rfl
 ·rename_i e a e' b;simp only[PR.ok.injEq]at h1;obtain⟨rfl,h1⟩:=h1;simp only;split
  ·exact hf _ _ _ h1.symm
  ·trivial
theorem FN{rec rec':QK→List Tok→QR Ts}(h:∀k r r',Sq r r'→SR (rec k r) (rec' k r'))(k:QK){r r':List Tok}(hr:Sq r r'):SR (bg N rec k r) (bg N' rec' k r'):=by
 cases k with
 | S=>exact dM (h _ _ _ hr) fun _ _ _ h1=>h _ _ _ h1
 | A=>exact dM (h _ _ _ hr) fun _ _ _ h1=>h _ _ _ h1
 | D=>exact dM (h _ _ _ hr) fun _ _ _ h1=>h _ _ _ h1
 | R=>exact dM (h _ _ _ hr) fun _ _ _ h1=>h _ _ _ h1
 | Sp l=>
  simp only[bg];rcases fU orW hr with⟨e1,e2⟩|⟨a,b,e1,e2,h1⟩<;>rw[e1,e2]
  ·exact⟨rfl,hr⟩
  ·exact dM (h _ _ _ h1) fun _ _ _ h1=>h _ _ _ h1
 | Ap l=>
  simp only[bg];rcases fU jq hr with⟨e1,e2⟩|⟨a,b,e1,e2,h1⟩<;>rw[e1,e2]
  ·exact⟨rfl,hr⟩
  ·exact dM (h _ _ _ h1) fun _ _ _ h1=>h _ _ _ h1
 | Dp s=>
  simp only[bg];rcases fU (aO 35 35) hr with⟨e1,e2⟩|⟨a,b,e1,e2,h1⟩<;>rw[e1,e2]
  ·exact⟨rfl,hr⟩
  ·simp only;rcases fU (aj 91) h1 with⟨e1,e2⟩|⟨a2,b2,e1,e2,h2⟩<;>rw[e1,e2]
   ·exact py h1 fun _ _ _ h3=>dM (h _ _ _ h3) fun _ _ _ h1=>h _ _ _ h1
   ·exact py h2 fun _ _ _ h3=>cr h3 fun _ _ h4=>py h4 fun _ _ _ h5=>cr h5 fun _ _ h6=>dM (h _ _ _ h6) fun _ _ _ h1=>h _ _ _ h1
 | H=>
  simp only[bg];rcases fU gO hr with⟨e1,e2⟩|⟨a,b,e1,e2,h1⟩<;>rw[e1,e2]
  ·exact h _ _ _ hr
  ·exact cr h1 fun _ _ h3=>sm h3 fun _ _ _ h4=>cr h4 fun _ _ h5=>cr h5 fun _ _ h6=>dM (h _ _ _ h6) fun _ _ _ h1=>⟨rfl,h1⟩
 | Rp s=>
  simp only[bg];rcases fU (aj 91) hr with⟨e1,e2⟩|⟨a,b,e1,e2,h1⟩<;>rw[e1,e2]
  ·exact⟨rfl,hr⟩
  ·refine cr h1 fun _ _ h3=>py h3 fun _ a b h4=>?_;rcases fU (aj 58) h4 with⟨e1,e2⟩|⟨a2,b2,e1,e2,h5⟩<;>rw[e1,e2]
   ·exact cr h4 fun _ _ h6=>h _ _ _ h6
   ·exact py h5 fun _ _ _ h6=>cr h6 fun _ _ h7=>h _ _ _ h7
 | U=>
  simp only[bg];rcases fU (aj 123) hr with⟨e1,e2⟩|⟨a,b,e1,e2,h1⟩<;>rw[e1,e2]
  ·refine cr hr fun _ _ h3=>dM (h _ _ _ h3) fun s a b h4=>?_;rcases fU (aj 44) h4 with⟨e1,e2⟩|⟨a2,b2,e1,e2,h5⟩<;>rw[e1,e2]
   ·exact cr h4 fun _ _ h6=>⟨rfl,h6⟩
   ·exact yb h5 fun _ _ _ h6=>cr h6 fun _ _ h7=>sm h7 fun _ _ _ h8=>cr h8 fun _ _ h9=>⟨rfl,h9⟩
  ·exact sm h1 fun _ _ _ h3=>cr h3 fun _ _ h4=>⟨rfl,h4⟩
theorem xR:∀(n:Nat) (k:QK) (r r':List Tok),Sq r r'→SR (kr N n k r) (kr N' n k r')
 | 0,_,_,_,_=>trivial
 | n+1,k,_,_,h=>FN (xR n) k h
theorem te(k:QK){r r':List Tok}(h:Sq r r'):SR (qp N k r) (qp N' k r'):=by
 unfold qp;rw[h.len];exact xR _ k r r' h
theorem Fm{r r':List Tok}(h:Sq r r'):SR (uz N r) (uz N' r'):=by
 refine cr h fun _ _ h1=>yb h1 fun _ _ _ h2=>cr h2 fun a b h3=>?_;rcases fU kR h3 with⟨e1,e2⟩|⟨a2,b2,e1,e2,h4⟩<;>rw[e1,e2]
 ·refine dM (te _ h3) fun c a b h4=>cr h4 fun a b h5=>?_;rcases fU (aO 45 62) h5 with⟨e1,e2⟩|⟨a2,b2,e1,e2,h6⟩<;>rw[e1,e2]
  ·exact cr h5 fun _ _ h6=>dM (te _ h6) fun _ _ _ h7=>cr h7 fun _ _ h8=>⟨rfl,h8⟩
  ·exact dM (te _ h6) fun _ _ _ h7=>cr h7 fun _ _ h8=>⟨rfl,h8⟩
 ·exact dM (te _ h4) fun _ _ _ h7=>cr h7 fun _ _ h8=>⟨rfl,h8⟩
variable {q : List Tok}
end
end Go.Proofs.YthekkgfmagliiaaGreatDoor
