import Derived.Test.YtnhphlmblenapaaGreatDoorFx6
set_option linter.unusedVariables false
set_option linter.unusedSimpArgs false
set_option linter.unusedSectionVars false
set_option maxRecDepth 100000
set_option maxHeartbeats 4000000
open List renaming eq_nil_of_length_eq_zero->Pa,cons_append->Pb,takeWhile_cons_of_neg->Pd,dropWhile_cons_of_neg->Pe,map_cons->Pf,length_cons->Pg,nil_append->Ph,take_length->Pi,takeWhile_cons_of_pos->Pj,dropWhile_cons_of_pos->Pk,sum_cons->Pl,count_append->Pm,length_drop->Pn,getElem_mem->Po,isPrefixOf->Pp,map_nil->Pq
open Nat renaming le_refl->Pr
open Option renaming map_some->Ps
namespace Go.Proofs.YtnhphlmblenapaaGreatDoor
open Go.RowKit
theorem xv{p:UInt8->Bool}{x:UInt8}(hx:p x=false):∀(l q:Bs),(l++x::q).takeWhile p=l.takeWhile p
 | [],q=>by rw[Ph,Pd (by rw[hx];decide)];rfl
 | a::l,q=>by
  by_cases h:p a=true
  .rw[Pb,Pj h,Pj h,xv hx l q]
  .rw[Pb,Pd h,Pd h]
theorem tP{m l q:Bs}(hm:∀x,x∈m->x≠10):m.isPrefixOf (l++10::q)=m.isPrefixOf l:=by
 induction m generalizing l with
 | nil=>simp
 | cons a m ih=>
  cases l with
  | nil=>
   have:(a==(10:UInt8))=false:=beq_eq_false_iff_ne.2 (hm a (by simp));simp[Pp,this]
  | cons b l=>simp only[Pb,Pp,ih (l:=l) (fun x hx=>hm x (by simp[hx]))]
theorem Ao(l q:Bs):dW (l++10::q)=dW l:=by
 suffices H:∀(ms:List Bs),(∀m,m∈ms->m∈aV)->∀b,ga ms b (l++10::q)=ga ms b l from H aV (fun _ h=>h) 0
 intro ms
 induction ms with
 | nil=>intro _ b;rfl
 | cons m ms ih=>
  intro h b;simp only[ga,tP (sS m (h m (by simp)))];exact ih (fun x hx=>h x (by simp[hx])) _
theorem yV{l:Bs}(h:l≠[])(q:Bs):cP (l++10::q)=cP l:=by
 match l,h with
 | c::r,_=>
  have h1:=xv (p:=inn) (x:=10) (by decide) (c::r) q;have h2:=Ao (c::r) q;rw[Pb]at h1 h2 ⊢;simp only[cP,h1,h2]
theorem xF{p:UInt8->Bool}{x:UInt8}(hx:p x=false):∀(l q:Bs),(l++x::q).dropWhile p=l.dropWhile p++x::q
 | [],q=>by rw[Ph,Pe (by rw[hx];decide)];rfl
 | a::l,q=>by
  by_cases h:p a=true
  .rw[Pb,Pk h,Pk h,xF hx l q]
  .rw[Pb,Pe h,Pe h];rfl
theorem qD:∀(k:Nat) (l q:Bs),l.length≤k->bQ (l++10::q)=if bQ l=[]then bQ q else bQ l++10::q:=by
 intro k;have nl:∀q,bQ (10::q)=bQ q:=fun q=>by rw[dG,if_pos (by decide)]
 induction k with
 | zero=>
  intro l q h;have:l=[]:=Pa (by omega);subst this;rw[Ph,nl,dP,if_pos rfl]
 | succ k ih=>
  intro l q h
  match l with
  | []=>rw[Ph,nl,dP,if_pos rfl]
  | c::r=>
   have hr:r.length≤k:=by simpa using h
   rw[Pb,dG,dG];by_cases hb:A6 c=true
   .rw[if_pos hb,if_pos hb];exact ih r q hr
   .rw[if_neg hb,if_neg hb];by_cases hc:c=47/\r.head? = some 47
    .have hc2:c=47/\(r++10::q).head? = some 47:=⟨hc.1,by
      cases r with
      | nil=>simp at hc
      | cons a r=>simpa using hc.2⟩
     rw[if_pos hc,if_pos hc2,<-Pb,xF (by decide)];exact ih _ q (Nat.le_trans (iy hc.1) hr)
    .have hc2:¬(c=47/\(r++10::q).head? = some 47):=by
      rintro⟨h1,h2⟩;cases r with
      | nil=>simp at h2
      | cons a r=>exact hc ⟨h1,by simpa using h2⟩
     rw[if_neg hc,if_neg hc2,if_neg (by simp)];rfl
theorem AL:∀(k:Nat) (N:Int) (s t:Bs) (a:List Tok),s.length≤k->dL (N-((10::t).count 10:Nat)) s=.ok a->dL N (s++10::t)=(dL N t).app a:=by
 intro k
 induction k with
 | zero=>
  intro N s t a h ht;have:s=[]:=Pa (by omega);subst this;rw[bC,dP]at ht;cases ht;rw[bC,bC N t,qD 0 [] t (by simp),if_pos dP];cases bQ t with
  | nil=>rfl
  | cons c r=>
   simp only;cases cP (c::r)with
   | err e=>rfl
   | tok kd n len=>simp only;cases (dL N ((c::r).drop len)).cons _<;>rfl
 | succ k ih=>
  intro N s t a h ht;rw[bC]at ht;rw[bC,qD _ s t (Pr _)];cases hsk:bQ s with
  | nil=>
   rw[hsk]at ht;cases ht;rw[if_pos rfl,bC N t];cases bQ t with
   | nil=>rfl
   | cons c r=>
    simp only;cases cP (c::r)with
    | err e=>rfl
    | tok kd n len=>simp only;cases (dL N ((c::r).drop len)).cons _<;>rfl
  | cons c r=>
   rw[hsk]at ht;have hs:=(dx s).length_le;rw[hsk]at hs;rw[if_neg (by simp)];simp only[Pb]at ht ⊢;have hrm:=yV (l:=c::r) (by simp) t;rw[Pb]at hrm;rw[hrm];cases hrd:cP (c::r)with
   | err e=>rw[hrd]at ht;cases ht
   | tok kd n len=>
    rw[hrd]at ht;obtain⟨h1,h2⟩:=gG hrd;simp only at ht ⊢
    have hd:(c::(r++10::t)).drop len=(c::r).drop len++10::t:=by
     rw[<-Pb,List.drop_append_of_le_length h2]
    have htk:(c::(r++10::t)).take len=(c::r).take len:=by
     rw[<-Pb,List.take_append_of_le_length h2]
    have hcnt:((c::(r++10::t)).count 10:Nat)=(c::r).count 10+(10::t).count 10:=by
     rw[<-Pb,Pm]
    rw[hd];cases hx:dL (N-((10::t).count 10:Nat)) ((c::r).drop len)with
    | err x e=>rw[hx]at ht;cases ht
    | ok ts=>
     rw[hx]at ht;cases ht;rw[ih N _ t ts (by rw[Pn];simp only[Pg]at hs h2 ⊢;omega) hx]
     have hcut:fN N (c::(r++10::t)) kd n len=fN (N-((10::t).count 10:Nat)) (c::r) kd n len:=by
      unfold fN;rw[htk,hcnt];congr 1;omega
     rw[hcut];cases dL N t<;>rfl
theorem Ba(d:Int):∀(k:Nat) (N:Int) (l:Bs),l.length≤k->dL (N+d) l=(dL N l).down d:=by
 intro k
 induction k with
 | zero=>
  intro N l h;have:l=[]:=Pa (by omega);subst this;rw[bC,bC N,dP];rfl
 | succ k ih=>
  intro N l h;rw[bC,bC N];have hs:=(dx l).length_le;cases hsk:bQ l with
  | nil=>rfl
  | cons c r=>
   rw[hsk]at hs;simp only;cases hrd:cP (c::r)with
   | err e=>simp only[Lx.down];congr 1;omega
   | tok kd n len=>
    obtain⟨h1,h2⟩:=gG hrd;simp only;rw[ih N _ (by rw[Pn];simp only[Pg]at hs h2 ⊢;omega)];cases dL N ((c::r).drop len)with
    | ok ts=>
     simp only[Lx.down,Lx.cons,Pf];congr 2;simp only[fN,Tok.down];congr 1;omega
    | err x e=>rfl
theorem wS(s t:Bs)(a:List Tok)(h:dj s=.ok a):dj (s++10::t)=((dj t).down (1+(s.count 10:Nat))).app a:=by
 unfold dj at h ⊢;have hc:((s++10::t).count 10:Nat)=s.count 10+(10::t).count 10:=Pm;have hc2:((10::t).count 10:Nat)=t.count 10+1:=by simp
 have e1:(1+((s++10::t).count 10:Nat):Int)-((10::t).count 10:Nat)=1+(s.count 10:Nat):=by rw[hc];omega
 rw[AL s.length _ s t a (Pr _) (by rw[e1];exact h)];have e2:(1+((s++10::t).count 10:Nat):Int)=(1+(t.count 10:Nat))+(1+(s.count 10:Nat)):=by rw[hc,hc2];omega
 rw[e2,Ba _ t.length _ t (Pr _)]
def ln1(t:Tok):Tok:=⟨t.kind,t.num,t.text,1⟩
theorem fZ:SameTok ln1:=⟨fun _=>rfl,fun _=>rfl,fun _=>rfl⟩
def Sq(r r':List Tok):Prop:=r.map ln1=r'.map ln1
theorem Sq.refl(r:List Tok):Sq r r:=Eq.refl _
theorem Sq.len{r r':List Tok}(h:Sq r r'):r.length=r'.length:=by have:=congrArg List.length h;simpa using this
theorem m8(m:ByteArray){r r':List Tok}(h:Sq r r'):(acc m r=none/\acc m r'=none)\/∃a b,acc m r=some a/\acc m r'=some b/\Sq a b:=by
 have h1:=cj fZ m r;have h2:=cj fZ m r';rw[show r.map ln1=r'.map ln1 from h,h2]at h1;cases e1:acc m r<;>cases e2:acc m r'<;>rw[e1,e2]at h1
 .exact .inl ⟨rfl,rfl⟩
 .cases h1
 .cases h1
 .simp only[Ps,Option.some.injEq]at h1;exact .inr ⟨_,_,rfl,rfl,h1.symm⟩
theorem DZ{r r':List Tok}(h:Sq r r'):(bD r=none/\bD r'=none)\/∃s a b,bD r=some (s,a)/\bD r'=some (s,b)/\Sq a b:=by
 have h1:=kD fZ r;have h2:=kD fZ r';rw[show r.map ln1=r'.map ln1 from h,h2]at h1;cases e1:bD r<;>cases e2:bD r'<;>rw[e1,e2]at h1
 .exact .inl ⟨rfl,rfl⟩
 .cases h1
 .cases h1
 .rename_i p p';obtain⟨s,a⟩:=p;obtain⟨s',a'⟩:=p';simp only[Ps,Option.some.injEq,Prod.mk.injEq]at h1;obtain⟨rfl,h1⟩:=h1;exact .inr ⟨_,_,_,rfl,rfl,h1.symm⟩
theorem E5{r r':List Tok}(h:Sq r r'):(cm r=none/\cm r'=none)\/∃s a b,cm r=some (s,a)/\cm r'=some (s,b)/\Sq a b:=by
 have h1:=lI fZ r;have h2:=lI fZ r';rw[show r.map ln1=r'.map ln1 from h,h2]at h1;cases e1:cm r<;>cases e2:cm r'<;>rw[e1,e2]at h1
 .exact .inl ⟨rfl,rfl⟩
 .cases h1
 .cases h1
 .rename_i p p';obtain⟨s,a⟩:=p;obtain⟨s',a'⟩:=p';simp only[Ps,Option.some.injEq,Prod.mk.injEq]at h1;obtain⟨rfl,h1⟩:=h1;exact .inr ⟨_,_,_,rfl,rfl,h1.symm⟩
section
variable {α β : Type}
def SR(x y:CP α):Prop:=match x,y with
 | .out,.out=>True
 | .bad e _,.bad e' _=>e=e'
 | .ok v r,.ok v' r'=>v=v'/\Sq r r'
 | _,_=>False
variable {N N' : Int} {r r' : List Tok}
theorem SR.ok_left{x y:CP α}{v:α}{a:List Tok}(h:SR x y)(hx:x=.ok v a):∃b,y=.ok v b/\Sq a b:=by
 subst hx;cases y with
 | ok v' b=>obtain⟨h1,h2⟩:=h;subst h1;exact⟨b,rfl,h2⟩
 | _=>exact h.elim
theorem di{v:α}(h:Sq r r'):SR (.ok v r) (.ok v r'):=⟨rfl,h⟩
theorem cf{x y:CP β}{f g:β->List Tok->CP α}(h:SR x y)(hf:∀v a b,Sq a b->SR (f v a) (g v b)):SR (x.bind f) (y.bind g):=by
 cases x<;>cases y<;>first|exact h.elim|exact h|skip
 obtain⟨h1,h2⟩:=h;subst h1;exact hf _ _ _ h2
theorem se(h:Sq r r'):SR (gV N r:CP α) (gV N' r'):=by
 have hl:=h.len;cases r<;>cases r'<;>first|(simp at hl;done)|exact rfl
theorem cL{m:ByteArray}{f g:List Tok->CP α}(h:Sq r r')(hf:∀a b,Sq a b->SR (f a) (g b)):SR (bJ N m r f) (bJ N' m r' g):=by
 unfold bJ;rcases m8 m h with⟨e1,e2⟩|⟨a,b,e1,e2,h1⟩
 .rw[e1,e2];exact se h
 .rw[e1,e2];exact hf a b h1
theorem gk{m:ByteArray}{f g:List Tok->CP α}{x y:CP α}(h:Sq r r')(hf:∀a b,Sq a b->SR (f a) (g b))(hx:SR x y):SR (ep m r f x) (ep m r' g y):=by
 unfold ep;rcases m8 m h with⟨e1,e2⟩|⟨a,b,e1,e2,h1⟩
 .rw[e1,e2];exact hx
 .rw[e1,e2];exact hf a b h1
theorem lE{f g:Int->List Tok->CP α}(h:Sq r r')(hf:∀n a b,Sq a b->SR (f n a) (g n b)):SR (fD N r f) (fD N' r' g):=by
 unfold fD;rcases E5 h with⟨e1,e2⟩|⟨n,a,b,e1,e2,h1⟩
 .rw[e1,e2];exact se h
 .rw[e1,e2];exact hf n a b h1
theorem i7{f g:ByteArray->List Tok->CP α}(h:Sq r r')(hf:∀n a b,Sq a b->SR (f n a) (g n b)):SR (cW N r f) (cW N' r' g):=by
 unfold cW;rcases DZ h with⟨e1,e2⟩|⟨n,a,b,e1,e2,h1⟩
 .rw[e1,e2];exact se h
 .rw[e1,e2];exact hf n a b h1
theorem xX{f g:Ex->List Tok->CP α}(h:Sq r r')(hf:∀n a b,Sq a b->SR (f n a) (g n b)):SR (exC N r f) (exC N' r' g):=by
 have h1:=xD fZ .W r;have h2:=xD fZ .W r';rw[show r.map ln1=r'.map ln1 from h,h2]at h1;unfold exC;cases e1:par .W r<;>cases e2:par .W r'<;>rw[e1,e2]at h1<;>simp only[PR.mapT]at h1<;>first|exact absurd e1 (eR _ _)|cases h1|skip
 .rename_i c a c' b;simp only[PR.bad.injEq]at h1;exact h1.1.symm
 .rename_i e a e' b;simp only[PR.ok.injEq]at h1;obtain⟨rfl,h1⟩:=h1;simp only;split
  .exact hf _ _ _ h1.symm
  .exact rfl
theorem xe{f g:α->List Tok->Option (CP α)}(hf:∀l r r',Sq r r'->(f l r=none/\g l r'=none)\/∃x y,f l r=some x/\g l r'=some y/\SR x y):∀(n:Nat) (l:α) (r r':List Tok),Sq r r'->SR (iG f n l r) (iG g n l r')
 | 0,_,_,_,_=>trivial
 | n+1,l,r,r',h=>by
  unfold iG;rcases hf l r r' h with⟨e1,e2⟩|⟨x,y,e1,e2,h1⟩
  .rw[e1,e2];exact⟨rfl,h⟩
  .rw[e1,e2];exact cf h1 fun v a b hab=>xe hf n v a b hab
theorem pH{f g:α->List Tok->Option (CP α)}(hf:∀l r r',Sq r r'->(f l r=none/\g l r'=none)\/∃x y,f l r=some x/\g l r'=some y/\SR x y)(l:α)(h:Sq r r'):SR (bY f l r) (bY g l r'):=by
 unfold bY;rw[<-h.len];exact xe hf _ _ _ _ h
theorem IU{m:ByteArray}{F G:List Tok->CP α}(h:Sq r r')(hF:∀a b,Sq a b->SR (F a) (G b)):((acc m r).map F=none/\(acc m r').map G=none)\/∃x y,(acc m r).map F=some x/\(acc m r').map G=some y/\SR x y:=by
 rcases m8 m h with⟨e1,e2⟩|⟨a,b,e1,e2,h1⟩
 .rw[e1,e2];exact .inl ⟨rfl,rfl⟩
 .rw[e1,e2];exact .inr ⟨_,_,rfl,rfl,hF a b h1⟩
theorem oN{m:ByteArray}{p p':List Tok->CP α}(hp:∀r r',Sq r r'->SR (p r) (p' r'))(l:List α)(h:Sq r r'):
 SR (bY (fun l r=>(acc m r).map fun r2=>(p r2).bind fun s r3=>.ok (l++[s]) r3) l r) (bY (fun l r=>(acc m r).map fun r2=>(p' r2).bind fun s r3=>.ok (l++[s]) r3) l r'):=by
 refine pH (fun l r r' h=>?_) _ h;exact IU (m:=m) h (F:=fun r2=>(p r2).bind fun s r3=>.ok (l++[s]) r3) (G:=fun r2=>(p' r2).bind fun s r3=>.ok (l++[s]) r3) fun a b h=>cf (hp a b h) fun _ _ _ h=>di h
theorem mR(h:Sq r r'):SR (eP N r) (eP N' r'):=
 i7 h fun _ _ _ h=>gk h (fun _ _ h=>lE h fun _ _ _ h=>cL h fun _ _ h=>di h) (di h)
theorem oZ(h:Sq r r'):SR (eJ N r) (eJ N' r'):=
 cf (mR h) fun _ _ _ h=>oN (fun _ _=>mR) _ h
theorem rD(h:Sq r r'):SR (fq N r) (fq N' r'):=
 lE h fun _ _ _ h=>cf (gk h (fun _ _ h=>lE h fun _ _ _ h=>di h) (di h)) fun _ _ _ h=>cf (gk h (fun _ _ h=>di h) (cL h fun _ _ h=>di h)) fun _ _ _ h=>lE h fun _ _ _ h=>di h
theorem vH(h:Sq r r'):SR (gI N r) (gI N' r'):=
 cf (rD h) fun _ _ _ h=>oN (fun _ _=>rD) _ h
theorem oe{R S:Rec}(h2:∀l r r',Sq r r'->SR (R.rest l r) (S.rest l r'))(h:Sq r r'):SR (fc N R r) (fc N' S r'):=cL h fun _ _ h=>h2 _ _ _ h
theorem E6{R S:Rec}(h1:∀r r',Sq r r'->SR (R.item r) (S.item r'))(h2:∀l r r',Sq r r'->SR (R.rest l r) (S.rest l r')):
 (∀r r',Sq r r'->SR ((gc N R).item r) ((gc N' S).item r'))/\∀l r r',Sq r r'->SR ((gc N R).rest l r) ((gc N' S).rest l r'):=by
 have pl:∀k r r',Sq r r'->SR (fA N k r) (fA N' k r'):=fun k _ _ h=>xX h fun _ _ _ h=>cL h fun _ _ h=>di h;refine⟨fun r r' h=>?_,fun l r r' h=>gk h (fun _ _ h=>di h) (cf (h1 _ _ h) fun _ _ _ h=>h2 _ _ _ h)⟩;refine gk h (pl 2) <| gk h (fun _ _ h=>?_) <| gk h (fun _ _ h=>?_) <| gk h (fun _ _ h=>?_) <| gk h (fun _ _ h=>?_) <| pl 1 _ _ h
 .exact cf (mR h) fun _ _ _ h=>cL h fun _ _ h=>cf (vH h) fun _ _ _ h=>cL h fun _ _ h=>cL h fun _ _ h=>di h
 .exact cL h fun _ _ h=>xX h fun _ _ _ h=>cL h fun _ _ h=>cf (oe h2 h) fun _ _ _ h=>cf (gk h (fun _ _ h=>oe h2 h) (di h)) fun _ _ _ h=>di h
 .exact i7 h fun _ _ _ h=>cL h fun _ _ h=>i7 h fun _ _ _ h=>cf (oe h2 h) fun _ _ _ h=>di h
 .exact cf (oZ h) fun _ _ _ h=>cL h fun _ _ h=>cf (oZ h) fun _ _ _ h=>cL h fun _ _ h=>di h
theorem sD:∀n,(∀r r',Sq r r'->SR ((eI N n).item r) ((eI N' n).item r'))/\∀l r r',Sq r r'->SR ((eI N n).rest l r) ((eI N' n).rest l r')
 | 0=>⟨fun _ _ _=>trivial,fun _ _ _ _=>trivial⟩
 | n+1=>E6 (sD n).1 (sD n).2
theorem Fo(l:List It)(h:Sq r r'):SR (ic N l r) (ic N' l r'):=by unfold ic;rw[<-h.len];exact(sD _).2 l _ _ h
theorem pA(m:Int)(h:Sq r r'):SR (eD N m r) (eD N' m r'):=
 i7 h fun _ _ _ h=>cf (gk h (fun _ _ h=>lE h fun _ _ _ h=>by
  split
  .exact rfl
  .exact cL h fun _ _ h=>di h) (di h)) fun _ _ _ h=>cL h fun _ _ h=>lE h fun _ _ _ h=>cf (by
   split
   .exact cL h fun _ _ h=>lE h fun _ _ _ h=>di h
   .exact di h) fun _ _ _ h=>cL h fun _ _ h=>di h
theorem yB(h:Sq r r'):SR (fk N r) (fk N' r'):=by
 refine pH (fun l r r' h=>?_) _ h;rcases m8 ro h with⟨e1,e2⟩|⟨a,b,e1,e2,h1⟩
 .rcases m8 nx h with⟨f1,f2⟩|⟨a,b,f1,f2,h1⟩
  .rcases m8 mV h with⟨g1,g2⟩|⟨a,b,g1,g2,h1⟩
   .simp only[e1,e2,f1,f2,g1,g2];exact .inl ⟨trivial,trivial⟩
   .simp only[e1,e2,f1,f2,g1,g2];exact .inr ⟨_,_,rfl,rfl,cf (pA 0 h1) fun _ _ _ h=>di h⟩
  .simp only[e1,e2,f1,f2];exact .inr ⟨_,_,rfl,rfl,cf (pA 2 h1) fun _ _ _ h=>di h⟩
 .simp only[e1,e2];exact .inr ⟨_,_,rfl,rfl,cf (pA 1 h1) fun _ _ _ h=>di h⟩
theorem Ej(h:Sq r r'):SR (gQ N r) (gQ N' r'):=by
 unfold gQ;refine i7 h fun s a b h=>?_;have hb:SR (fc N (gM N) a) (fc N' (gM N') b):=oe (fun l _ _ h=>by rw[mQ,mQ];exact Fo l h) h;generalize fc N (gM N) a=x at *;generalize fc N' (gM N') b=y at *;exact cf hb fun _ _ _ h=>di h
theorem zj(h:Sq r r'):SR (gr N r) (gr N' r'):=oN (fun _ _=>Ej) [] h
theorem Dc(h:Sq r r'):SR (dR N r) (dR N' r'):=
 cL h fun _ _ h=>i7 h fun _ _ _ h=>cf (gk h (fun _ _ h=>i7 h fun _ _ _ h=>di h) (di h)) fun _ _ _ h=>cL h fun _ _ h=>cf (yB h) fun _ _ _ h=>cf (zj h) fun _ _ _ h=>cL h fun _ _ h=>di h
theorem BV(h:Sq r r'):r.isEmpty=r'.isEmpty:=by
 have hl:=h.len;cases r<;>cases r'<;>first|rfl|(simp at hl;done)
theorem HT{p p':List Tok->CP α}(hp:∀r r',Sq r r'->SR (p r) (p' r'))(h:Sq r r'):
 SR (bY (fun l r=>if r.isEmpty=true then none else some ((p r).bind fun x r1=>.ok (l++[x]) r1)) [] r) (bY (fun l r=>if r.isEmpty=true then none else some ((p' r).bind fun x r1=>.ok (l++[x]) r1)) [] r'):=by
 refine pH (fun l r r' h=>?_) _ h;rw[BV h];cases r'.isEmpty with
 | true=>exact .inl ⟨rfl,rfl⟩
 | false=>exact .inr ⟨_,_,rfl,rfl,cf (hp _ _ h) fun _ _ _ h=>di h⟩
theorem tN(h:Sq r r'):SR (fB N r) (fB N' r'):=HT (fun _ _=>Dc) h
end
end Go.Proofs.YtnhphlmblenapaaGreatDoor
namespace Go.Proofs.YtnhphlmblenapaaGreatDoor
open Go.RowKit
structure StopC(q:List Tok):Prop where
 st:Stop 1 q
 no:∀m,m≠jJ->acc m q=none
section
variable {α β : Type} {N N' : Int} {q : List Tok}
def QE(q:List Tok)(x y:CP α):Prop:=∀v r1,x=.ok v r1->y=.ok v (r1++q)
theorem cU{v:α}{r1:List Tok}:QE q (.ok v r1) (.ok v (r1++q)):=by rintro _ _ ⟨⟩;rfl
theorem ci{x y:CP β}{f g:β->List Tok->CP α}(h:QE q x y)(hf:∀v r,QE q (f v r) (g v (r++q))):QE q (x.bind f) (y.bind g):=by
 intro v r1 hx;cases x with
 | ok w a=>rw[h w a rfl];exact hf w a v r1 hx
 | _=>cases hx
theorem oD{r r1:List Tok}{v:α}:(gV N r:CP α)≠.ok v r1:=by cases r<;>(intro h;cases h)
theorem cE{m:ByteArray}{r:List Tok}{f g:List Tok->CP α}(hf:∀r,QE q (f r) (g (r++q))):QE q (bJ N m r f) (bJ N' m (r++q) g):=by
 unfold bJ;cases h:acc m r with
 | none=>intro v r1 hx;exact absurd hx oD
 | some a=>rw[bR q h];exact hf a
theorem gm(hq:StopC q){m:ByteArray}(hm:m≠jJ){r:List Tok}{f g:List Tok->CP α}{x y:CP α}(hf:∀r,QE q (f r) (g (r++q)))(hx:QE q x y):QE q (ep m r f x) (ep m (r++q) g y):=by
 unfold ep;cases h:acc m r with
 | none=>rw[dN h (hq.no m hm)];exact hx
 | some a=>rw[bR q h];exact hf a
theorem lF{r:List Tok}{f g:Int->List Tok->CP α}(hf:∀n r,QE q (f n r) (g n (r++q))):QE q (fD N r f) (fD N' (r++q) g):=by
 unfold fD;cases h:cm r with
 | none=>intro v r1 hx;exact absurd hx oD
 | some p=>obtain⟨n,a⟩:=p;rw[pE q h];exact hf n a
theorem jc{r:List Tok}{f g:ByteArray->List Tok->CP α}(hf:∀n r,QE q (f n r) (g n (r++q))):QE q (cW N r f) (cW N' (r++q) g):=by
 unfold cW;cases h:bD r with
 | none=>intro v r1 hx;exact absurd hx oD
 | some p=>obtain⟨n,a⟩:=p;rw[ns q h];exact hf n a
theorem xn(hq:StopC q){r:List Tok}{f g:Ex->List Tok->CP α}(hf:∀n r,QE q (f n r) (g n (r++q))):QE q (exC N r f) (exC N' (r++q) g):=by
 unfold exC;cases h:par .W r with
 | out=>exact absurd h (eR _ _)
 | bad c a=>intro v r1 hx;cases hx
 | ok e a=>
  rw[show par .W (r++q)=.ok e (a++q)from sX hq.st _ .W r e a trivial h];simp only;split
  .exact hf e a
  .intro v r1 hx;cases hx
theorem oE{sz:α->Nat}{f g:α->List Tok->Option (CP α)}(hg:Stp sz g)(hf:∀l r,(f l r=none->g l (r++q)=none)/\∀x,f l r=some x->∃y,g l (r++q)=some y/\QE q x y):∀(n:Nat) (l:α) (r:List Tok),QE q (iG f n l r) (bY g l (r++q))
 | 0,_,_=>fun _ _ h=>by cases h
 | n+1,l,r=>by
  rw[gy hg.eats];unfold iG;cases h:f l r with
  | none=>rw[(hf l r).1 h];exact cU
  | some x=>
   obtain⟨y,e,hxy⟩:=(hf l r).2 x h;rw[e];exact ci hxy fun v a=>oE hg hf n v a
theorem tc(hq:StopC q){p p':List Tok->CP α}(hp:∀r,QE q (p r) (p' (r++q)))(ht:∀r,Tk fE r.length r (p' r))(l:List α)(r:List Tok):
 QE q (bY (fun l r=>(acc (ah 44) r).map fun r2=>(p r2).bind fun s r3=>.ok (l++[s]) r3) l r) (bY (fun l r=>(acc (ah 44) r).map fun r2=>(p' r2).bind fun s r3=>.ok (l++[s]) r3) l (r++q)):=by
 refine oE (iD ht) (fun l r=>⟨fun h=>?_,fun x h=>?_⟩) _ l r
 .cases ha:acc (ah 44) r with
  | none=>rw[dN ha (hq.no _ (by decide +kernel))];rfl
  | some a=>rw[ha]at h;cases h
 .cases ha:acc (ah 44) r with
  | none=>rw[ha]at h;cases h
  | some a=>
   rw[ha]at h;cases h;rw[bR q ha];exact⟨_,rfl,ci (hp a) fun _ _=>cU⟩
theorem nt(hq:StopC q)(r:List Tok):QE q (eP N r) (eP N' (r++q)):=
 jc fun _ _=>gm hq (by decide +kernel) (fun _=>lF fun _ _=>cE fun _=>cU) cU
theorem qa(hq:StopC q)(r:List Tok):QE q (eJ N r) (eJ N' (r++q)):=
 ci (nt hq r) fun _ r=>tc hq (nt hq) (e8 N') _ r
theorem rm(hq:StopC q)(r:List Tok):QE q (fq N r) (fq N' (r++q)):=
 lF fun _ _=>ci (gm hq (by decide +kernel) (fun _=>lF fun _ _=>cU) cU) fun _ _=>ci (gm hq (by decide +kernel) (fun _=>cU) (cE fun _=>cU)) fun _ _=>lF fun _ _=>cU
theorem vu(hq:StopC q)(r:List Tok):QE q (gI N r) (gI N' (r++q)):=
 ci (rm hq r) fun _ r=>tc hq (rm hq) (gC N') _ r
theorem EY(hq:StopC q){R S:Rec}(h1:∀r,QE q (R.item r) (S.item (r++q)))(h2:∀l r,QE q (R.rest l r) (S.rest l (r++q))):
 (∀r,QE q ((gc N R).item r) ((gc N' S).item (r++q)))/\∀l r,QE q ((gc N R).rest l r) ((gc N' S).rest l (r++q)):=by
 have pl:∀k r,QE q (fA N k r) (fA N' k (r++q)):=fun k _=>xn hq fun _ _=>cE fun _=>cU;have bd:∀r,QE q (fc N R r) (fc N' S (r++q)):=fun r=>cE fun r=>h2 [] r;refine⟨fun r=>?_,fun l r=>gm hq (by decide +kernel) (fun _=>cU) (ci (h1 r) fun _ r=>h2 _ r)⟩;refine gm hq (by decide +kernel) (pl 2) <| gm hq (by decide +kernel) (fun _=>?_) <| gm hq (by decide +kernel) (fun _=>?_) <| gm hq (by decide +kernel) (fun _=>?_) <| gm hq (by decide +kernel) (fun _=>?_) <| pl 1 _
 .exact ci (nt hq _) fun _ _=>cE fun _=>ci (vu hq _) fun _ _=>cE fun _=>cE fun _=>cU
 .exact cE fun _=>xn hq fun _ _=>cE fun _=>ci (bd _) fun _ _=>ci (gm hq (by decide +kernel) (fun _=>bd _) cU) fun _ _=>cU
 .exact jc fun _ _=>cE fun _=>jc fun _ _=>ci (bd _) fun _ _=>cU
 .exact ci (qa hq _) fun _ _=>cE fun _=>ci (qa hq _) fun _ _=>cE fun _=>cU
theorem sr(hq:StopC q):∀n,(∀r,QE q ((eI N n).item r) (jt N' (r++q)))/\∀l r,QE q ((eI N n).rest l r) (ic N' l (r++q))
 | 0=>⟨fun _ _ _ h=>(by cases h),fun _ _ _ _ h=>(by cases h)⟩
 | n+1=>by
  have h:=EY (N:=N) (N':=N') hq (S:=gM N') (sr hq n).1 (sr hq n).2;exact⟨fun r=>by rw[sT];exact h.1 r,fun l r=>by rw[ur];exact h.2 l r⟩
theorem o9(hq:StopC q)(m:Int)(r:List Tok):QE q (eD N m r) (eD N' m (r++q)):=
 jc fun _ _=>ci (gm hq (by decide +kernel) (fun _=>lF fun _ _=>by
  split
  .intro v r1 h;cases h
  .exact cE fun _=>cU) cU) fun _ _=>cE fun _=>lF fun _ _=>ci (by
   split
   .exact cE fun _=>lF fun _ _=>cU
   .exact cU) fun _ _=>cE fun _=>cU
end
end Go.Proofs.YtnhphlmblenapaaGreatDoor
namespace Go.Proofs.YtnhphlmblenapaaGreatDoor
open Go.RowKit
theorem BK{m:ByteArray}{q a:List Tok}(h:acc m q=some a):∀m',m'≠m->acc m' q=none:=by
 intro m' hm;cases q with
 | nil=>rfl
 | cons t r=>
  have e:bS t=true/\(t.kind=4\/t.kind=2)/\t.text=m:=by
   apply Classical.byContradiction;intro hn;simp only[acc,if_neg hn]at h;cases h
  simp only[acc];rw[if_neg];rintro⟨-,-,e2⟩;exact hm (e2.symm.trans e.2.2)
theorem tz{q:List Tok}(h:∀m,m≠jJ->acc m q=none)(k:Nat):∀l:List (ByteArray×Int×Nat),(∀b,b∈l->b.1≠jJ)->fm l k q=none
 | [],_=>rfl
 | b::l,hl=>by
  rw[fm,h b.1 (hl b (by simp)),tz h k l (fun x hx=>hl x (by simp[hx]))];split<;>rfl
theorem EC{q a:List Tok}(h:acc jJ q=some a):StopC q:=by
 have hno:=BK h;refine⟨⟨fun _=>hno _ (by decide +kernel),fun _=>hno _ (by decide +kernel),fun j _ _=>?_,fun _=>hno _ (by decide +kernel),hno _ (by decide +kernel),hno _ (by decide +kernel),hno _ (by decide +kernel)⟩,hno⟩;unfold dw;rw[tz hno j fp (by decide +kernel),hno (ah 62) (by decide +kernel),hno (bL 62 61) (by decide +kernel)];simp only[ite_self]
section
variable {N N' : Int} {q : List Tok}
theorem A7(hq:StopC q)(r:List Tok):QE q (fk N r) (fk N' (r++q)):=by
 refine oE (f:=fT N) (g:=fT N') (lx N') (fun l r=>?_) _ [] r;unfold fT;cases h1:acc ro r with
 | some a=>rw[bR q h1];exact⟨(fun h=>by cases h),fun x hx=>by cases hx;exact⟨_,rfl,ci (o9 hq 1 a) fun _ _=>cU⟩⟩
 | none=>
  rw[dN h1 (hq.no _ (by decide +kernel))];simp only;cases h2:acc nx r with
  | some a=>rw[bR q h2];exact⟨(fun h=>by cases h),fun x hx=>by cases hx;exact⟨_,rfl,ci (o9 hq 2 a) fun _ _=>cU⟩⟩
  | none=>
   rw[dN h2 (hq.no _ (by decide +kernel))];simp only;cases h3:acc mV r with
   | some a=>rw[bR q h3];exact⟨(fun h=>by cases h),fun x hx=>by cases hx;exact⟨_,rfl,ci (o9 hq 0 a) fun _ _=>cU⟩⟩
   | none=>rw[dN h3 (hq.no _ (by decide +kernel))];exact⟨fun _=>rfl,fun x hx=>by cases hx⟩
theorem FC(hq:StopC q)(l:List It)(r:List Tok):QE q (ic N l r) (ic N' l (r++q)):=fun v r1 h=>(sr (N:=N) (N':=N') hq _).2 l r v r1 h
theorem Ez(hq:StopC q)(r:List Tok):QE q (gQ N r) (gQ N' (r++q)):=
 jc fun _ _=>ci (cE fun r=>FC hq [] r) fun _ _=>cU
theorem zA(hq:StopC q)(r:List Tok):QE q (gr N r) (gr N' (r++q)):=by
 refine oE (lu N') (fun l r=>⟨fun h=>?_,fun x h=>?_⟩) _ [] r
 .cases ha:acc dA r with
  | none=>rw[dN ha (hq.no _ (by decide +kernel))];rfl
  | some a=>rw[ha]at h;cases h
 .cases ha:acc dA r with
  | none=>rw[ha]at h;cases h
  | some a=>
   rw[ha]at h;cases h;rw[bR q ha];exact⟨_,rfl,ci (Ez hq a) fun _ _=>cU⟩
theorem D6(hq:StopC q)(r:List Tok):QE q (dR N r) (dR N' (r++q)):=
 cE fun _=>jc fun _ _=>ci (gm hq (by decide +kernel) (fun _=>jc fun _ _=>cU) cU) fun _ _=>cE fun _=>ci (A7 hq _) fun _ _=>ci (zA hq _) fun _ _=>cE fun _=>cU
end
def hH(N:Int):List Kl->List Tok->Option (CP (List Kl)):=fun l r=>if r.isEmpty=true then none else some ((dR N r).bind fun c r1=>.ok (l++[c]) r1)
theorem Cl(N:Int):Dr (hH N):=pS (sz:=ksz) (gb N) fun x=>by unfold ksz;omega
theorem oF(N:Int)(l:List Kl):bY (hH N) l []=.ok l []:=by rw[gy (Cl N)];rfl
theorem rW{N:Int}{l:List Kl}{r:List Tok}(h:r≠[]):bY (hH N) l r=(dR N r).bind fun c r1=>bY (hH N) (l++[c]) r1:=by
 rw[gy (Cl N)];cases r with
 | nil=>exact absurd rfl h
 | cons t r=>
  simp only[hH,List.isEmpty_cons,Bool.false_eq_true,if_false];cases dR N (t::r)<;>rfl
theorem sj{N:Int}{l a:List Kl}{r:List Tok}(h:r≠[])(hx:bY (hH N) l r=.ok a []):∃c r1,dR N r=.ok c r1/\r1.length<r.length/\bY (hH N) (l++[c]) r1=.ok a []:=by
 rw[rW h]at hx;have ht:=gb N r;cases hc:dR N r with
 | out=>rw[hc]at hx;cases hx
 | bad e n=>rw[hc]at hx;cases hx
 | ok c r1=>
  rw[hc]at hx ht;have:=ht.2;have h1:1≤ksz c:=by unfold ksz;omega
  exact⟨c,r1,rfl,by omega,hx⟩
theorem ID{N N':Int}{q:List Tok}(hq:StopC q):∀(n:Nat) (r:List Tok) (l a:List Kl),r.length≤n->bY (hH N) l r=.ok a []->bY (hH N') l (r++q)=bY (hH N') a q:=by
 intro n
 induction n with
 | zero=>
  intro r l a hr hx;obtain rfl:r=[]:=Pa (by omega);rw[oF]at hx;cases hx;rfl
 | succ n ih=>
  intro r l a hr hx;by_cases h:r=[]
  .subst h;rw[oF]at hx;cases hx;rfl
  .obtain⟨c,r1,h1,h2,h3⟩:=sj h hx;rw[rW (by simp[h]),D6 (N:=N) (N':=N') hq r c r1 h1];exact ih r1 _ a (by omega) h3
theorem Mp{N:Int}:∀(n:Nat) (r:List Tok) (p l a:List Kl),r.length≤n->bY (hH N) l r=.ok a []->bY (hH N) (p++l) r=.ok (p++a) []:=by
 intro n
 induction n with
 | zero=>
  intro r p l a hr hx;obtain rfl:r=[]:=Pa (by omega);rw[oF]at hx ⊢;cases hx;rfl
 | succ n ih=>
  intro r p l a hr hx;by_cases h:r=[]
  .subst h;rw[oF]at hx ⊢;cases hx;rfl
  .obtain⟨c,r1,h1,h2,h3⟩:=sj h hx;rw[rW h,h1];have:=ih r1 p (l++[c]) a (by omega) h3;rw[<-List.append_assoc]at this;exact this
theorem wX{N N2 N':Int}{r q q':List Tok}{a b:List Kl}(h1:fB N r=.ok a [])(h2:fB N2 q=.ok b [])(hq:Sq q q'):fB N' (r++q')=.ok (a++b) []:=by
 obtain⟨z,h3,h4⟩:=(tN (N:=N2) (N':=N') hq).ok_left h2;have hz:z=[]:=Pa h4.len.symm;subst hz;by_cases h0:q'=[]
 .subst h0
  have hb:b=[]:=by
   have:fB N' []=.ok [] []:=oF N' [];rw[this]at h3;cases h3;rfl
  subst hb;obtain⟨z,h5,h6⟩:=(tN (N:=N) (N':=N') (Sq.refl r)).ok_left h1;have hz:z=[]:=Pa h6.len.symm;subst hz;simpa using h5
 .obtain⟨c,r1,g1,-,-⟩:=sj (N:=N') (l:=[]) h0 h3
  have hs:StopC q':=by
   unfold dR bJ at g1;cases hacc:acc jJ q' with
   | none=>rw[hacc]at g1;exact absurd g1 oD
   | some w=>exact EC hacc
  have e1:fB N' (r++q')=bY (hH N') a q':=ID (N:=N) hs r.length r [] a (Pr _) h1;rw[e1];have:=Mp (N:=N') q'.length q' a [] b (Pr _) h3;rwa[List.append_nil]at this
end Go.Proofs.YtnhphlmblenapaaGreatDoor
namespace Go.Proofs.YtnhphlmblenapaaGreatDoor
open Go.RowKit
theorem FP{C:Cx}{f:FuncId}{args:List V}{x:V}(ha:args.all (V.under 0)=true)(hx:x.isOwn=false)(h:Fun C f args [] (aO x []))(σ:LLV):Fun C f args σ (aO x σ):=by
 refine⟨h.1,fun M bm tk pr w vs hG hI ht hl hr=>?_⟩
 have hI0:Inv M [] [] (fun _ _=>none) (fun b=>b<w.heap.size) w:=
  ⟨hI.facts,rfl,fun i b cs hb=>by simp at hb,fun b hb=>by simp at hb,List.nodup_nil,(fun _ _ _ h=>by cases h),(fun _ _ _ _ _ h=>by cases h),fun b hb=>hb⟩
 refine(h.2 M [] (fun _ _=>none) (fun b=>b<w.heap.size) w vs (hG.prot hI.prlt) hI0 (fun _=>rfl) hl (fun i g g'=>?_)).mono fun e w' ⟨M',bm',tk',σ',o,⟨ho,hs⟩,k1,k2,k3⟩=>?_
 .have:=(hr i g g').drop (k:=0) (List.all_eq_true.1 ha _ (Po g));rwa[List.take_zero]at this
 .subst ho;subst hs;have hbm:bm'=[]:=Pa k1.len;subst hbm;obtain⟨h1,h2⟩:=hI.grow ⟨k2.os,k2.tape,k2.output,k2.size,fun b hb=>k2.keep b hb⟩ k2.le k1.facts (fun b hb o=>k2.facts b hb o);refine⟨M',bm,tk,σ,.ret x,⟨rfl,rfl⟩,h1,h2,fun u e1=>?_,fun u e1=>by cases e1⟩;cases e1;obtain⟨y,e2,e3,e4⟩:=k3.1 _ rfl;exact⟨y,e2,e3.mono (ao.le.refl _) (fun i b h=>by simp at h),fun T k rows e=>by rw[e]at hx;cases hx⟩
theorem yj(src:List Kl)(hS:∀c,c∈src->KlS c)(hl:src.length≤1200000)(σ:LLV):Fun G 18 [.d (.sl (src.map dkk))] σ (aO (.d (aa (qv src))) σ):=
 FP rfl rfl (EV src hS [] ⟨(fun _ h=>by cases h),rfl⟩ hl) σ
def jL:List Kl->Int
 | []=>0
 | c::r=>if lh c≠0 then lh c else jL r
theorem DN{l:List Kl}(h:jL l=0):∀c,c∈l->lh c=0:=by
 induction l with
 | nil=>intro c hc;cases hc
 | cons a r ih=>
  rw[jL]at h;split at h
  .rename_i hn;exact absurd h hn
  .rename_i hn;intro c hc;rcases List.mem_cons.1 hc with rfl|hc
   .exact Classical.byContradiction hn
   .exact ih h c hc
theorem Bq{a b:List Kl}(ha:jL a=0)(hb:jL b=0):jL (a++b)=0:=by
 induction a with
 | nil=>exact hb
 | cons c r ih=>
  rw[jL]at ha;split at ha
  .rename_i hn;exact absurd ha hn
  .rename_i hn;rw[Pb,jL,if_neg hn];exact ih ha
theorem Ag{c:Kl}(h:lh c=0):c.flds.length≤16/\c.blks.length≤16:=by
 unfold lh at h;split at h
 .rename_i h0;unfold qn at h0;split at h0
  .cases h0
  .split at h0
   .cases h0
   .omega
 .rename_i h0;exact absurd h h0
theorem oW{l:List Kl}{c:Kl}(h:c∈l):ksz c≤li l:=by
 induction l with
 | nil=>cases h
 | cons a r ih=>
  simp only[li,Pf,Pl]at ih ⊢;rcases List.mem_cons.1 h with rfl|h
  .omega
  .have:=ih h;omega
theorem B5{l:List Kl}(h:jL l=0)(hz:li l≤1200000):∀c,c∈l->KlS c:=fun c hc=>by
 obtain⟨h1,h2⟩:=Ag (DN h c hc);refine⟨h1,h2,fun b hb=>?_⟩;have h3:=oW hc;have h4:=xZ hb;unfold ksz at h3;omega
theorem lL(l:List Kl):l.length≤li l:=by
 induction l with
 | nil=>exact Pr _
 | cons a r ih=>simp only[li,Pf,Pl,Pg]at ih ⊢;have:=oA a;omega
def ja(l:Bs):List Kl×Int×Int:=dk [] (fun ts=>fB (zLs ts) ts) l
def dr(l:Bs):List Kl×Int×Int:=if(ja l).2.2=0 then(if jL (ja l).1=0 then(if qv (ja l).1=0 then((ja l).1,0,0)else([],0,qv (ja l).1))else([],0,jL (ja l).1))else([],(ja l).2.1,(ja l).2.2)
theorem ow(l:Bs):li (ja l).1≤16384:=si (z:=[]) (fun ts=>ma (zLs ts) ts) (by decide) l
theorem jM(l:Bs)(σ:LLV):Fun G 15 [.d (ae (bs l))] σ (aO (dp jz (dr l)) σ):=by
 refine al Tryz.func15 k15 rfl fun hb hw=>?_;have hP:=C6 (fun ts=>fB (zLs ts) ts) (fun ts=>(ma _ _).ne) 42 l (fun ts H _ i τ hi=>FN ts H i τ hi) σ;have hsz:=ow l;have hP:Fun G 41 [.d (ae (bs l)),.fn 42 []] σ (aO (dp jz (ja l)) σ):=hP;unfold c15 dr;generalize ja l=r at *;obtain⟨v,n,e⟩:=r;unfold dp jz at *;simp only at hsz hP ⊢;have hvl:=lL v;simp -dsimp only[aw,seval];refine aj hP ?_;by_cases he:e=0
 case neg=>
  rw[if_neg he];simp -dsimp only[aw,seval,decide_eq_false he];exact aF hb (v:=.tup [.d (.sl []),.d (aa n),.d (aa e)]) (by simp[CO,aL,cv,bc,aw,seval]) rfl Pi ⟨rfl,rfl⟩
 rw[if_pos he];simp -dsimp only[aw,seval,decide_eq_true he,List.length_map];refine aI [5,22,23,24] (fun(j:Nat) ρ σ'=>ρ=[(5,.d (.sl (v.map dkk))),(22,.d (.sl (v.map dkk))),(23,aC .i64 v.length),(24,aC .i64 j)]/\σ'=σ/\jL v=jL (v.drop j)) v.length ⟨rfl,rfl,rfl⟩ ?_ _;rintro j ρ' σ' hj ⟨rfl,rfl,hI⟩;have d1:∀c:Kl,dkk c=[ae c.name,ae c.par,.sl (c.flds.map dfl),.sl (c.blks.map dbk)]:=fun _=>rfl;by_cases hlt:j<v.length
 .have wj:=aJ hlt (show v.length≤9223372036854775807 by omega);have e1:(v.map dkk)[j]? = some (dkk v[j]):=by rw[List.getElem?_map,List.getElem?_eq_getElem hlt];rfl
  rw[List.drop_eq_getElem_cons hlt,jL]at hI;have hks:=oW (Po hlt);generalize v[j]=x at hI e1 hks;simp -dsimp only[aw,seval,Int.ofNat_lt,hlt,e1,d1];refine aj (pw x (by omega) _) ?_;by_cases hq:lh x=0
  .rw[if_neg (fun h=>h hq)]at hI;simp -dsimp only[aw,seval,hq,wj];exact⟨hlt,Nxt.to σ' [(dkk x).map V.d] (by simp[dkk]) (Pr _) hb (by simp[an,V.under]) ⟨rfl,rfl,hI⟩⟩
  .rw[if_pos hq]at hI;rw[if_neg (by rw[hI];exact hq),hI];simp -dsimp only[aw,seval,decide_eq_false hq];exact aF hb (v:=.tup [.d (.sl []),.d (aa 0),.d (aa (lh x))]) (by simp[CO,aL,cv,bc,aw,seval]) rfl List.take_left ⟨rfl,rfl⟩
 rw[List.drop_eq_nil_of_le (by omega),jL]at hI;rw[if_pos hI];simp -dsimp only[aw,seval,Int.ofNat_lt,hlt];refine aj (yj v (B5 hI (by omega)) (by omega) _) ?_;by_cases h0:qv v=0
 .rw[if_pos h0];simp -dsimp only[aw,seval,h0];exact aF hb (v:=.tup [.d (.sl (v.map dkk)),.d (aa 0),.d (aa 0)]) (by simp[CO,aL,cv,bc,aw,seval]) rfl Pi ⟨rfl,rfl⟩
 .rw[if_neg h0];simp -dsimp only[aw,seval,decide_eq_false h0];exact aF hb (v:=.tup [.d (.sl []),.d (aa 0),.d (aa (qv v))]) (by simp[CO,aL,cv,bc,aw,seval]) rfl Pi ⟨rfl,rfl⟩
def awV:Ex:=.mk 2 0 ⟨#[97]⟩ []
def awK:Kl:=⟨⟨#[112]⟩,⟨#[]⟩,[⟨⟨#[97]⟩,2,0,1,0⟩],[(⟨#[99]⟩,[.mk 1 (bh 17 [awV,.mk 1 3 ⟨#[]⟩ []]) ⟨#[]⟩ ⟨#[]⟩ [] [] [] [] [],.mk 2 (bh 15 [awV,.mk 1 1 ⟨#[]⟩ []]) ⟨#[]⟩ ⟨#[]⟩ [] [] [] [] []])]⟩
def awI:It:=.mk 3 exZ ⟨#[97]⟩ ⟨#[]⟩ [⟨0,0,2,true⟩,⟨1,3,6,false⟩] [] [] [] []
theorem Jy:sg [99,108,97,115,115,32,112,32,123,32,114,97,110,100,32,97,32,58,32,50,59,32,99,111,110,115,116,114,97,105,110,116,32,99,32,123,32,97,32,60,32,51,59,32,115,111,102,116,32,97,32,61,61,32,49,59,32,125,32,125]=(awK,0,0):=by kernel_rfl
theorem JJ:od [100,105,115,116,32,97,32,123,32,48,32,58,61,32,50,44,32,49,32,46,46,32,51,32,58,47,32,54,32,125,59]=([awI],0,0):=by kernel_rfl
theorem Kw:od [97,32,60]=([],1,6):=by kernel_rfl
theorem ea(σ:LLV):Fun G 8 [] σ (aO (ak true) σ):=by
 have h1:=fun σ=>vn [99,108,97,115,115,32,112,32,123,32,114,97,110,100,32,97,32,58,32,50,59,32,99,111,110,115,116,114,97,105,110,116,32,99,32,123,32,97,32,60,32,51,59,32,115,111,102,116,32,97,32,61,61,32,49,59,32,125,32,125] σ;have h2:=fun σ=>qg [100,105,115,116,32,97,32,123,32,48,32,58,61,32,50,44,32,49,32,46,46,32,51,32,58,47,32,54,32,125,59] σ;have h3:=fun σ=>qg [97,32,60] σ;rw[Jy]at h1;rw[JJ]at h2;rw[Kw]at h3
 have e1:vkl awK=.agg [.d (ae ⟨#[112]⟩),.d (ae ⟨#[]⟩),.d (.sl [[ae ⟨#[97]⟩,aa 2,aa 0,aa 1,aa 0]]),.d (.sl [[ae ⟨#[99]⟩,.sl [dit (.mk 1 (bh 17 [awV,.mk 1 3 ⟨#[]⟩ []]) ⟨#[]⟩ ⟨#[]⟩ [] [] [] [] []),dit (.mk 2 (bh 15 [awV,.mk 1 1 ⟨#[]⟩ []]) ⟨#[]⟩ ⟨#[]⟩ [] [] [] [] [])]]])]:=by
  show V.agg [_,_,_,V.d (.sl [[_,cT _]])]=_;unfold cT;rfl
 have hit:[awI].map dit=[[aa 3,aa 0,aa 0,ae ⟨#[]⟩,.sl [],ae ⟨#[97]⟩,ae ⟨#[]⟩,.sl [[aa 0,aa 0,aa 2,dbl true],[aa 1,aa 3,aa 6,dbl false]],.sl [],.sl [],.sl [],.sl []]]:=by
  rw[Pf,Pq,eV];rfl
 unfold dp at h1 h2 h3;unfold kL at h2 h3;simp only[hit,Pq]at h2 h3;rw[e1]at h1;refine al Tryz.func8 k8 rfl fun hb hw=>?_;unfold c8;simp -dsimp only[aw,seval];refine aj (h1 _) ?_;simp -dsimp only[aw,seval];refine aj (h2 _) ?_;simp -dsimp only[aw,seval];refine aj (h3 _) ?_;have q1:decide (((1:Nat):Int)=1)=true:=rfl;have q2:decide (((2:Nat):Int)=2)=true:=rfl;have j1:∀x y:D,iaV 2 (.d (.sl [[x,y]])) (.d (.lit (.int .i64 0)))=some (.row [x,y] 0):=fun x y=>rfl;have j2:∀a b c d e f g h i j k l:D,iaV 12 (.d (.sl [[a,b,c,d,e,f,g,h,i,j,k,l]])) (.d (.lit (.int .i64 0)))=some (.row [a,b,c,d,e,f,g,h,i,j,k,l] 0):=fun a b c d e f g h i j k l=>rfl
 have j3:∀a b c d e f g h:D,iaV 4 (.d (.sl [[a,b,c,d],[e,f,g,h]])) (.d (.lit (.int .i64 1)))=some (.row [e,f,g,h] 0):=fun a b c d e f g h=>rfl;simp -dsimp only[aw,seval,Pg,List.length_nil,q1,q2,j1,j2,j3];refine aU (show G.eqs 56=true by kernel_rfl) ?_;have q3:iY false [.i .i64,.i .i64,.i .i64,.b] (V.agg [.d (aa 1),.d (aa 3),.d (aa 6),.d (dbl false)]) (V.agg [.d (.lit (.int .i64 1)),.d (.lit (.int .i64 3)),.d (.lit (.int .i64 6)),.d (.lit (.bool false))])=some (ak true):=by simp[iY,cJ,kW]
 simp -dsimp only[aw,seval,q3];exact av hb rfl rfl
section
variable (i : Nat) (t : Option Bs) (k : Nat) (x : It) (d : Nat) (σ : LLV)
end
end Go.Proofs.YtnhphlmblenapaaGreatDoor
namespace Go.Proofs.YtnhphlmblenapaaGreatDoor
open Go.RowKit
section
variable (b c i : Nat) (t : Option Bs) (k : Nat) (x : It) (d : Nat) (σ : LLV)
end
section
variable (i : Nat) (t : Option Bs) (k : Nat) (x : It) (d : Nat) (σ : LLV)
end
end Go.Proofs.YtnhphlmblenapaaGreatDoor
namespace Go.Proofs.YtnhphlmblenapaaGreatDoor
open Go.RowKit
section
variable (i : Nat) (t : Option Bs) (k : Nat) (x : It) (d : Nat) (σ : LLV)
end
end Go.Proofs.YtnhphlmblenapaaGreatDoor
namespace Go.Proofs.YtnhphlmblenapaaGreatDoor
open Go.RowKit
def Bc(c:Kl):Nat:=(c.blks.map fun b=>bi b.2).sum
theorem CG{c:Kl}{b:Bk}(h:b∈c.blks):bi b.2≤Bc c:=by
 unfold Bc;generalize c.blks=l at h
 induction l with
 | nil=>cases h
 | cons a r ih=>
  rw[Pf,Pl];rcases List.mem_cons.1 h with rfl|h
  .omega
  .have:=ih h;omega
theorem D5(f:Fl):dfl f=[ae f.name,aa f.width,aa f.size,aa f.mode,aa f.init]:=rfl
theorem rL(b:Bk):dbk b=[ae b.1,cT b.2]:=rfl
end Go.Proofs.YtnhphlmblenapaaGreatDoor
