import Derived.Test.YtnhphlmblenapaaGreatDoorDg4
set_option linter.unusedVariables false
set_option linter.unusedSimpArgs false
set_option linter.unusedSectionVars false
open Bool renaming and_eq_true->TU
open List renaming append_nil->TV,map_congr_left->TW,flatMap_cons->TX,append_assoc->TY,nil_append->TZ,map_cons->T0,map_map->T3,isEmpty_nil->T4,isEmpty_iff->T5,map_append->T6,head?_cons->T7
open Option renaming map_some->T8
namespace Go.Proofs.YtnhphlmblenapaaGreatDoor
open Go.RowKit
theorem sS{e:Ex}(h:ly e=true):e=exZ:=by
 unfold ly at h;simp only[TU,decide_eq_true_eq,T5]at h;obtain⟨⟨⟨h1,h2⟩,h3⟩,h4⟩:=h;cases e with
 | mk o n s l=>
  simp only[Ex.op,Ex.num,Ex.name,Ex.args]at h1 h2 h3 h4;subst h1 h2 h3 h4;rfl
theorem nT{x:It}{d:Nat}(hs:bP x d=0):
 (∃k e,(k=1\/k=2)/\bz e=0/\x=.mk k e ⟨#[]⟩ ⟨#[]⟩ [] [] [] [] [])\/
 (∃s ws,bv s=true/\ws≠[]/\(∀w,w∈ws->wtB w=true)/\x=.mk 3 exZ s ⟨#[]⟩ ws [] [] [] [])\/
 (∃e l m,bz e=0/\x=.mk 4 e ⟨#[]⟩ ⟨#[]⟩ [] l m [] [])\/
 (∃s i l,aS s=true/\aS i=true/\x=.mk 5 exZ s i [] l [] [] [])\/
 (∃l m,l≠[]/\m≠[]/\(∀s,s∈l->bv s=true)/\(∀s,s∈m->bv s=true)/\x=.mk 6 exZ ⟨#[]⟩ ⟨#[]⟩ [] [] [] l m):=by
 obtain⟨h1,hp,-⟩:=kU hs;obtain⟨k,e,nm,ix,ws,l,m,bf,af⟩:=x;unfold dW at hp;replace hp:((decide (k=1\/k=2\/k=4)||ly e)&&(decide (k=3\/k=5)||decide (nm=⟨#[]⟩))&&(decide (k=5)||decide (ix=⟨#[]⟩))&&(decide (k=3)||ws.isEmpty)&&(decide (k=4\/k=5)||l.isEmpty)&&(decide (k=4)||m.isEmpty)&&(decide (k=6)||bf.isEmpty&&af.isEmpty))=true:=hp;replace h1:1≤k/\k≤6:=h1;simp only[TU,Bool.or_eq_true,decide_eq_true_eq,T5]at hp;obtain⟨⟨⟨⟨⟨⟨p1,p2⟩,p3⟩,p4⟩,p5⟩,p6⟩,p7⟩:=hp;unfold bP at hs;split at hs
 .cases hs
 replace hs:(if k=3 then qw (.mk k e nm ix ws l m bf af)else if k=6 then om (.mk k e nm ix ws l m bf af)else if k=5 then tl (.mk k e nm ix ws l m bf af)else bz e)=0:=hs;by_cases k3:k=3
 .subst k3;rw[if_pos rfl]at hs;unfold qw at hs;replace hs:(if ws.length>16 then 2 else if ws=[]then 1 else if ws.all wtB=false then 1 else if bv nm=true then 0 else 7:Int)=0:=hs;split at hs
  .cases hs
  split at hs
  .cases hs
  rename_i hne;split at hs
  .cases hs
  rename_i hall;split at hs
  .rename_i hv;refine .inr (.inl ⟨nm,ws,hv,hne,?_,?_⟩)
   .have:=(Bool.not_eq_false _).mp hall;exact List.all_eq_true.1 this
   .rw[sS (p1.resolve_left (by decide)),p3.resolve_left (by decide),p5.resolve_left (by decide),p6.resolve_left (by decide),(p7.resolve_left (by decide)).1,(p7.resolve_left (by decide)).2]
  .cases hs
 rw[if_neg k3]at hs;by_cases k6:k=6
 .subst k6;rw[if_pos rfl]at hs;unfold om at hs;replace hs:(if bf=[]\/af=[]then 1 else if(bf++af).all bv=true then 0 else 7:Int)=0:=hs;split at hs
  .cases hs
  rename_i hne;split at hs
  .rename_i hall;have ha:=List.all_eq_true.1 hall;refine .inr (.inr (.inr (.inr ⟨bf,af,fun h=>hne (.inl h),fun h=>hne (.inr h),fun s h=>ha s (by simp[h]),fun s h=>ha s (by simp[h]),?_⟩)));rw[sS (p1.resolve_left (by decide)),p2.resolve_left (by decide),p3.resolve_left (by decide),p4.resolve_left (by decide),p5.resolve_left (by decide),p6.resolve_left (by decide)]
  .cases hs
 rw[if_neg k6]at hs;by_cases k5:k=5
 .subst k5;rw[if_pos rfl]at hs;unfold tl at hs;replace hs:(if aS nm=true/\aS ix=true then 0 else 7:Int)=0:=hs;split at hs
  .rename_i hn;refine .inr (.inr (.inr (.inl ⟨nm,ix,l,hn.1,hn.2,?_⟩)));rw[sS (p1.resolve_left (by decide)),p4.resolve_left (by decide),p6.resolve_left (by decide),(p7.resolve_left (by decide)).1,(p7.resolve_left (by decide)).2]
  .cases hs
 rw[if_neg k5]at hs;have hb:=p7.resolve_left k6;by_cases k4:k=4
 .subst k4;refine .inr (.inr (.inl ⟨e,l,m,hs,?_⟩));rw[p2.resolve_left (by decide),p3.resolve_left (by decide),p4.resolve_left (by decide),hb.1,hb.2]
 .refine .inl ⟨k,e,by omega,hs,?_⟩;rw[p2.resolve_left (by omega),p3.resolve_left k5,p4.resolve_left k3,p5.resolve_left (by omega),p6.resolve_left k4,hb.1,hb.2]
theorem qr{x:It}{d:Nat}(hs:bP x d=0)(q:List Tok):acc gj (gX x++q)=none/\acc (aa 125) (gX x++q)=none:=by
 have wd:∀w,w∈[jU,jQ,ifW,iQ,gH]->w≠gj/\w≠aa 125:=by decide +kernel
 have tw_:∀w,w∈[jU,jQ,ifW,iQ,gH]->∀r,acc gj (tw w::r)=none/\acc (aa 125) (tw w::r)=none:=fun w h r=>⟨pg (wd w h).1 r,pg (wd w h).2 r⟩
 rcases nT hs with⟨k,e,hk,he,rfl⟩|⟨s,ws,h1,h2,h3,rfl⟩|⟨e,l,m,he,rfl⟩|⟨s,i,l,h1,h2,rfl⟩|⟨l,m,h1,h2,h3,h4,rfl⟩
 .rcases hk with rfl|rfl
  .obtain⟨t,p,e1,ht⟩:=ue e (fZ he);have:gX (.mk 1 e ⟨#[]⟩ ⟨#[]⟩ [] [] [] [] [])++q=t::(p++([tm (aa 59)]++q)):=by rw[gX,if_pos rfl,e1];simp
   rw[this];exact Gl ht (by simp[lF]) _
  .exact tw_ jU (by simp) _
 .exact tw_ jQ (by simp) _
 .exact tw_ ifW (by simp) _
 .exact tw_ iQ (by simp) _
 .exact tw_ gH (by simp) _
theorem qo{z:Int}{x:It}{d:Nat}(hs:bP x d=0)(h1:∀l0 r,jI z l0 (df x.items++tm (aa 125)::r)=.ok (l0++x.items) r)(h2:∀l0 r,jI z l0 (df x.els++tm (aa 125)::r)=.ok (l0++x.els) r){r:List Tok}(hr:acc gj r=none):jn z (gX x++r)=.ok x r:=by
 have wd:∀w,w∈[jU,jQ,ifW,iQ,gH]->∀v,v∈[jU,jQ,ifW,iQ,gH]->w≠v->acc v [tw w]=none:=by decide +kernel
 have twn:∀{w v:ByteArray},w≠v->∀r,acc v (tw w::r)=none:=fun h r=>pg h r;rw[tr];rcases nT hs with⟨k,e,hk,he,rfl⟩|⟨s,ws,g1,g2,g3,rfl⟩|⟨e,l,m,he,rfl⟩|⟨s,i,l,g1,g2,rfl⟩|⟨l,m,g1,g2,g3,g4,rfl⟩
 .have pl:∀k,gu z k (aW e++(tm (aa 59)::r))=.ok (.mk k e ⟨#[]⟩ ⟨#[]⟩ [] [] [] [] []) r:=fun k=>by
   unfold gu;rw[uG he (fZ he) (Cw r),cS (by decide +kernel)]
  rcases hk with rfl|rfl
  .obtain⟨t,p,e1,ht⟩:=ue e (fZ he);have e2:gX (.mk 1 e ⟨#[]⟩ ⟨#[]⟩ [] [] [] [] [])++r=aW e++(tm (aa 59)::r):=by rw[gX,if_pos rfl];simp
   rw[e2];have hn:∀w,w∈lF->acc w (aW e++(tm (aa 59)::r))=none:=fun w hw=>by rw[e1];exact(Gl ht hw _).1
   rw[dB (hn _ (by simp[lF])),dB (hn _ (by simp[lF])),dB (hn _ (by simp[lF])),dB (hn _ (by simp[lF])),dB (hn _ (by simp[lF])),pl]
  .have e2:gX (.mk 2 e ⟨#[]⟩ ⟨#[]⟩ [] [] [] [] [])++r=tw jU::(aW e++(tm (aa 59)::r)):=by rw[gX,if_neg (by decide),if_pos rfl];simp
   rw[e2,nQ (by decide +kernel),pl]
 .have e2:gX (.mk 3 exZ s ⟨#[]⟩ ws [] [] [] [])++r=tw jQ::(iK s++(tm (aa 123)::(jT (ws.map yB)++(tm (aa 125)::tm (aa 59)::r)))):=by rw[gX,if_neg (by decide),if_neg (by decide),if_pos rfl];simp
  rw[e2,dB (twn (by decide +kernel) _),nQ (by decide +kernel)];unfold qU;rw[mw g1 (kH (by decide +kernel) _)];simp only[CP.bind];rw[cS (by decide +kernel),vB g2 g3 (kH (by decide +kernel) _)];simp only;rw[cS (by decide +kernel),cS (by decide +kernel)]
 .have e2:gX (.mk 4 e ⟨#[]⟩ ⟨#[]⟩ [] l m [] [])++r=tw ifW::tm (aa 40)::(aW e++(tm (aa 41)::tm (aa 123)::(df l++(tm (aa 125)::((if m.isEmpty=true then[]else tw gj::tm (aa 123)::(df m++[tm (aa 125)]))++r))))):=by
   rw[gX,if_neg (by decide),if_neg (by decide),if_neg (by decide),if_pos rfl];simp
  rw[e2,dB (twn (by decide +kernel) _),dB (twn (by decide +kernel) _),nQ (by decide +kernel)];unfold ifC;rw[cS (by decide +kernel),uG he (fZ he) (gy (by simp) 1 _),cS (by decide +kernel)];unfold fK;rw[cS (by decide +kernel),jf];have h1:=h1 [] ((if m.isEmpty=true then[]else tw gj::tm (aa 123)::(df m++[tm (aa 125)]))++r);rw[e8]at h1;rw[h1];simp only[CP.bind,TZ];cases m with
  | nil=>
   simp only[T4,if_true,TZ];rw[dB hr]
  | cons y m=>
   have h2:=h2 [] r;rw[lr]at h2;have e3:(if(y::m).isEmpty=true then[]else tw gj::tm (aa 123)::(df (y::m)++[tm (aa 125)]))++r=tw gj::tm (aa 123)::(df (y::m)++tm (aa 125)::r):=by rw[if_neg (by simp)];simp
   rw[e3,nQ (by decide +kernel),cS (by decide +kernel),h2];rfl
 .have e2:gX (.mk 5 exZ s i [] l [] [] [])++r=tw iQ::tn i::tw inW::tn s::tm (aa 123)::(df l++(tm (aa 125)::r)):=by
   rw[gX,if_neg (by decide),if_neg (by decide),if_neg (by decide),if_neg (by decide),if_pos rfl];simp
  rw[e2,dB (twn (by decide +kernel) _),dB (twn (by decide +kernel) _),dB (twn (by decide +kernel) _),nQ (by decide +kernel)];unfold oK fK;rw[j5 g2,vH (by decide +kernel),j5 g1,cS (by decide +kernel),jf];have h1:=h1 [] r;rw[e8]at h1;rw[h1];rfl
 .have e2:gX (.mk 6 exZ ⟨#[]⟩ ⟨#[]⟩ [] [] [] l m)++r=tw gH::(jT (l.map iK)++(tw nd::(jT (m.map iK)++(tm (aa 59)::r)))):=by
   rw[gX,if_neg (by decide),if_neg (by decide),if_neg (by decide),if_neg (by decide),if_neg (by decide)];simp
  rw[e2,dB (twn (by decide +kernel) _),dB (twn (by decide +kernel) _),dB (twn (by decide +kernel) _),dB (twn (by decide +kernel) _),nQ (by decide +kernel)];unfold ma;rw[pf g1 g3 (pg (by decide +kernel) _) (pg (by decide +kernel) _)];simp only[CP.bind];rw[show(⟨#[98,101,102,111,114,101]⟩:ByteArray)=nd from rfl,vH (by decide +kernel),pf g2 g4 (kH (by decide +kernel) _) (kH (by decide +kernel) _)];simp only;rw[cS (by decide +kernel)]
theorem mU{x:It}{l:List It}{d:Nat}(h:rvl (x::l) d=0):bP x d=0/\rvl x.items (d+1)=0/\rvl x.els (d+1)=0/\rvl l d=0:=by
 rw[rvl,Aw]at h;by_cases hs:bP x d=0
 .rw[if_pos hs]at h;by_cases e1:rvl x.items (d+1)=0
  .rw[if_pos e1]at h;by_cases e2:rvl x.els (d+1)=0
   .rw[if_pos e2]at h;exact⟨hs,e1,e2,h⟩
   .rw[if_neg e2]at h;exact absurd h e2
  .rw[if_neg e1,if_neg e1]at h;exact absurd h e1
 .rw[if_neg hs,if_neg hs]at h;exact absurd h hs
theorem GU{l:List It}{d:Nat}(h:rvl l d=0)(r:List Tok):acc gj (df l++tm (aa 125)::r)=none:=by
 cases l with
 | nil=>exact kH (by decide +kernel) _
 | cons x l=>rw[df,TY];exact(qr (mU h).1 _).1
theorem mt{z:Int}:∀(l:List It) (d:Nat),rvl l d=0->∀l0 r,jI z l0 (df l++tm (aa 125)::r)=.ok (l0++l) r:=by
 refine lx (fun d _ l0 r=>?_) fun x l h1 h2 h3 d h l0 r=>?_
 .rw[ou,df,TZ];rw[sO (by decide +kernel),TV]
 .obtain⟨hs,e1,e2,e3⟩:=mU h;rw[ou,df,TY];rw[dB (qr hs _).2,qo hs (h1 _ e1) (h2 _ e2) (GU e3 r)];show jI z (l0++[x]) _=_;rw[h3 d e3];simp
theorem sY{z:Int}:∀(l:List It),rvl l 0=0->∀l0,db (fun l r=>if r.isEmpty=true then none else some ((jn z r).bind fun x r1=>.ok (l++[x]) r1)) l0 (df l)=.ok (l0++l) []
 | [],_,l0=>by rw[fr (sj (kL z) iv)];simp[df]
 | x::l,h,l0=>by
  obtain⟨hs,e1,e2,e3⟩:=mU h
  have hr:acc gj (df l)=none:=by
   cases l with
   | nil=>rfl
   | cons y l=>rw[df];exact(qr (mU e3).1 _).1
  have hne:(df (x::l)).isEmpty=false:=by
   have:=qo hs (mt (z:=z) _ _ e1) (mt _ _ e2) hr;have h2:=kL z (gX x++df l);rw[this]at h2;have:=h2.2;have:=iv x;rw[df];cases hq:gX x++df l with
   | nil=>rw[hq]at h2;simp only[List.length_nil]at h2;have:=h2.2;omega
   | cons a b=>rfl
  rw[fr (sj (kL z) iv)];simp only[hne,Bool.false_eq_true,if_false];rw[df,qo hs (mt _ _ e1) (mt _ _ e2) hr];show db _ (l0++[x]) _=_;rw[sY l e3];simp
def ln1(t:Tok):Tok:=⟨t.kind,t.num,t.text,1⟩
theorem io:SameTok ln1:=⟨fun _=>rfl,fun _=>rfl,fun _=>rfl⟩
def Sq(r r':List Tok):Prop:=r.map ln1=r'.map ln1
theorem Sq.refl(r:List Tok):Sq r r:=Eq.refl _
theorem Sq.len{r r':List Tok}(h:Sq r r'):r.length=r'.length:=by have:=congrArg List.length h;simpa using this
theorem qn(m:ByteArray){r r':List Tok}(h:Sq r r'):(acc m r=none/\acc m r'=none)\/∃a b,acc m r=some a/\acc m r'=some b/\Sq a b:=by
 have h1:=cx io m r;have h2:=cx io m r';rw[show r.map ln1=r'.map ln1 from h,h2]at h1;cases e1:acc m r<;>cases e2:acc m r'<;>rw[e1,e2]at h1
 .exact .inl ⟨rfl,rfl⟩
 .cases h1
 .cases h1
 .simp only[T8,Option.some.injEq]at h1;exact .inr ⟨_,_,rfl,rfl,h1.symm⟩
theorem Ie{r r':List Tok}(h:Sq r r'):(bW r=none/\bW r'=none)\/∃s a b,bW r=some (s,a)/\bW r'=some (s,b)/\Sq a b:=by
 have h1:=no io r;have h2:=no io r';rw[show r.map ln1=r'.map ln1 from h,h2]at h1;cases e1:bW r<;>cases e2:bW r'<;>rw[e1,e2]at h1
 .exact .inl ⟨rfl,rfl⟩
 .cases h1
 .cases h1
 .rename_i p p';obtain⟨s,a⟩:=p;obtain⟨s',a'⟩:=p';simp only[T8,Option.some.injEq,Prod.mk.injEq]at h1;obtain⟨rfl,h1⟩:=h1;exact .inr ⟨_,_,_,rfl,rfl,h1.symm⟩
theorem JN{r r':List Tok}(h:Sq r r'):(ct r=none/\ct r'=none)\/∃s a b,ct r=some (s,a)/\ct r'=some (s,b)/\Sq a b:=by
 have h1:=pj io r;have h2:=pj io r';rw[show r.map ln1=r'.map ln1 from h,h2]at h1;cases e1:ct r<;>cases e2:ct r'<;>rw[e1,e2]at h1
 .exact .inl ⟨rfl,rfl⟩
 .cases h1
 .cases h1
 .rename_i p p';obtain⟨s,a⟩:=p;obtain⟨s',a'⟩:=p';simp only[T8,Option.some.injEq,Prod.mk.injEq]at h1;obtain⟨rfl,h1⟩:=h1;exact .inr ⟨_,_,_,rfl,rfl,h1.symm⟩
section
variable {α β : Type}
def SR(x y:CP α):Prop:=match x,y with
 | .out,.out=>True
 | .bad e _,.bad e' _=>e=e'
 | .ok v r,.ok v' r'=>v=v'/\Sq r r'
 | _,_=>False
variable {N N' : Int} {r r' : List Tok}
theorem dK{v:α}(h:Sq r r'):SR (.ok v r) (.ok v r'):=⟨rfl,h⟩
theorem cm{x y:CP β}{f g:β->List Tok->CP α}(h:SR x y)(hf:∀v a b,Sq a b->SR (f v a) (g v b)):SR (x.bind f) (y.bind g):=by
 cases x<;>cases y<;>first|exact h.elim|exact h|skip
 obtain⟨h1,h2⟩:=h;subst h1;exact hf _ _ _ h2
theorem rG(h:Sq r r'):SR (jP N r:CP α) (jP N' r'):=by
 have hl:=h.len;cases r<;>cases r'<;>first|(simp at hl;done)|exact rfl
theorem dm{m:ByteArray}{f g:List Tok->CP α}(h:Sq r r')(hf:∀a b,Sq a b->SR (f a) (g b)):SR (bO N m r f) (bO N' m r' g):=by
 unfold bO;rcases qn m h with⟨e1,e2⟩|⟨a,b,e1,e2,h1⟩
 .rw[e1,e2];exact rG h
 .rw[e1,e2];exact hf a b h1
theorem iM{m:ByteArray}{f g:List Tok->CP α}{x y:CP α}(h:Sq r r')(hf:∀a b,Sq a b->SR (f a) (g b))(hx:SR x y):SR (eC m r f x) (eC m r' g y):=by
 unfold eC;rcases qn m h with⟨e1,e2⟩|⟨a,b,e1,e2,h1⟩
 .rw[e1,e2];exact hx
 .rw[e1,e2];exact hf a b h1
theorem nU{f g:Int->List Tok->CP α}(h:Sq r r')(hf:∀n a b,Sq a b->SR (f n a) (g n b)):SR (gq N r f) (gq N' r' g):=by
 unfold gq;rcases JN h with⟨e1,e2⟩|⟨n,a,b,e1,e2,h1⟩
 .rw[e1,e2];exact rG h
 .rw[e1,e2];exact hf n a b h1
theorem lz{f g:ByteArray->List Tok->CP α}(h:Sq r r')(hf:∀n a b,Sq a b->SR (f n a) (g n b)):SR (dP N r f) (dP N' r' g):=by
 unfold dP;rcases Ie h with⟨e1,e2⟩|⟨n,a,b,e1,e2,h1⟩
 .rw[e1,e2];exact rG h
 .rw[e1,e2];exact hf n a b h1
theorem A8{f g:Ex->List Tok->CP α}(h:Sq r r')(hf:∀n a b,Sq a b->SR (f n a) (g n b)):SR (exC N r f) (exC N' r' g):=by
 have h1:=Bl io .W r;have h2:=Bl io .W r';rw[show r.map ln1=r'.map ln1 from h,h2]at h1;unfold exC;cases e1:par .W r<;>cases e2:par .W r'<;>rw[e1,e2]at h1<;>simp only[PR.mapT]at h1<;>first|exact absurd e1 (gC _ _)|cases h1|skip
 .rename_i c a c' b;simp only[PR.bad.injEq]at h1;exact h1.1.symm
 .rename_i e a e' b;simp only[PR.ok.injEq]at h1;obtain⟨rfl,h1⟩:=h1;simp only;split
  .exact hf _ _ _ h1.symm
  .exact rfl
theorem A9{f g:α->List Tok->Option (CP α)}(hf:∀l r r',Sq r r'->(f l r=none/\g l r'=none)\/∃x y,f l r=some x/\g l r'=some y/\SR x y):∀(n:Nat) (l:α) (r r':List Tok),Sq r r'->SR (mB f n l r) (mB g n l r')
 | 0,_,_,_,_=>trivial
 | n+1,l,r,r',h=>by
  unfold mB;rcases hf l r r' h with⟨e1,e2⟩|⟨x,y,e1,e2,h1⟩
  .rw[e1,e2];exact⟨rfl,h⟩
  .rw[e1,e2];exact cm h1 fun v a b hab=>A9 hf n v a b hab
theorem sQ{f g:α->List Tok->Option (CP α)}(hf:∀l r r',Sq r r'->(f l r=none/\g l r'=none)\/∃x y,f l r=some x/\g l r'=some y/\SR x y)(l:α)(h:Sq r r'):SR (db f l r) (db g l r'):=by
 unfold db;rw[<-h.len];exact A9 hf _ _ _ _ h
theorem LA{m:ByteArray}{F G:List Tok->CP α}(h:Sq r r')(hF:∀a b,Sq a b->SR (F a) (G b)):((acc m r).map F=none/\(acc m r').map G=none)\/∃x y,(acc m r).map F=some x/\(acc m r').map G=some y/\SR x y:=by
 rcases qn m h with⟨e1,e2⟩|⟨a,b,e1,e2,h1⟩
 .rw[e1,e2];exact .inl ⟨rfl,rfl⟩
 .rw[e1,e2];exact .inr ⟨_,_,rfl,rfl,hF a b h1⟩
theorem sD{m:ByteArray}{p p':List Tok->CP α}(hp:∀r r',Sq r r'->SR (p r) (p' r'))(l:List α)(h:Sq r r'):
 SR (db (fun l r=>(acc m r).map fun r2=>(p r2).bind fun s r3=>.ok (l++[s]) r3) l r) (db (fun l r=>(acc m r).map fun r2=>(p' r2).bind fun s r3=>.ok (l++[s]) r3) l r'):=by
 refine sQ (fun l r r' h=>?_) _ h;exact LA (m:=m) h (F:=fun r2=>(p r2).bind fun s r3=>.ok (l++[s]) r3) (G:=fun r2=>(p' r2).bind fun s r3=>.ok (l++[s]) r3) fun a b h=>cm (hp a b h) fun _ _ _ h=>dK h
theorem pR(h:Sq r r'):SR (fT N r) (fT N' r'):=
 lz h fun _ _ _ h=>iM h (fun _ _ h=>nU h fun _ _ _ h=>dm h fun _ _ h=>dK h) (dK h)
theorem rZ(h:Sq r r'):SR (fR N r) (fR N' r'):=
 cm (pR h) fun _ _ _ h=>sD (fun _ _=>pR) _ h
theorem u3(h:Sq r r'):SR (gM N r) (gM N' r'):=
 nU h fun _ _ _ h=>cm (iM h (fun _ _ h=>nU h fun _ _ _ h=>dK h) (dK h)) fun _ _ _ h=>cm (iM h (fun _ _ h=>dK h) (dm h fun _ _ h=>dK h)) fun _ _ _ h=>nU h fun _ _ _ h=>dK h
theorem As(h:Sq r r'):SR (jy N r) (jy N' r'):=
 cm (u3 h) fun _ _ _ h=>sD (fun _ _=>u3) _ h
theorem rr{R S:Rec}(h2:∀l r r',Sq r r'->SR (R.rest l r) (S.rest l r'))(h:Sq r r'):SR (fK N R r) (fK N' S r'):=dm h fun _ _ h=>h2 _ _ _ h
theorem K5{R S:Rec}(h1:∀r r',Sq r r'->SR (R.item r) (S.item r'))(h2:∀l r r',Sq r r'->SR (R.rest l r) (S.rest l r')):
 (∀r r',Sq r r'->SR ((kB N R).item r) ((kB N' S).item r'))/\∀l r r',Sq r r'->SR ((kB N R).rest l r) ((kB N' S).rest l r'):=by
 have pl:∀k r r',Sq r r'->SR (gu N k r) (gu N' k r'):=fun k _ _ h=>A8 h fun _ _ _ h=>dm h fun _ _ h=>dK h;refine⟨fun r r' h=>?_,fun l r r' h=>iM h (fun _ _ h=>dK h) (cm (h1 _ _ h) fun _ _ _ h=>h2 _ _ _ h)⟩;refine iM h (pl 2) <| iM h (fun _ _ h=>?_) <| iM h (fun _ _ h=>?_) <| iM h (fun _ _ h=>?_) <| iM h (fun _ _ h=>?_) <| pl 1 _ _ h
 .exact cm (pR h) fun _ _ _ h=>dm h fun _ _ h=>cm (As h) fun _ _ _ h=>dm h fun _ _ h=>dm h fun _ _ h=>dK h
 .exact dm h fun _ _ h=>A8 h fun _ _ _ h=>dm h fun _ _ h=>cm (rr h2 h) fun _ _ _ h=>cm (iM h (fun _ _ h=>rr h2 h) (dK h)) fun _ _ _ h=>dK h
 .exact lz h fun _ _ _ h=>dm h fun _ _ h=>lz h fun _ _ _ h=>cm (rr h2 h) fun _ _ _ h=>dK h
 .exact cm (rZ h) fun _ _ _ h=>dm h fun _ _ h=>cm (rZ h) fun _ _ _ h=>dm h fun _ _ h=>dK h
theorem rk:∀n,(∀r r',Sq r r'->SR ((gN N n).item r) ((gN N' n).item r'))/\∀l r r',Sq r r'->SR ((gN N n).rest l r) ((gN N' n).rest l r')
 | 0=>⟨fun _ _ _=>trivial,fun _ _ _ _=>trivial⟩
 | n+1=>K5 (rk n).1 (rk n).2
theorem JI(h:Sq r r'):SR (jn N r) (jn N' r'):=by unfold jn;rw[<-h.len];exact(rk _).1 _ _ h
theorem Kc(l:List It)(h:Sq r r'):SR (jI N l r) (jI N' l r'):=by unfold jI;rw[<-h.len];exact(rk _).2 l _ _ h
theorem sg(m:Int)(h:Sq r r'):SR (eV N m r) (eV N' m r'):=
 lz h fun _ _ _ h=>cm (iM h (fun _ _ h=>nU h fun _ _ _ h=>by
  split
  .exact rfl
  .exact dm h fun _ _ h=>dK h) (dK h)) fun _ _ _ h=>dm h fun _ _ h=>nU h fun _ _ _ h=>cm (by
   split
   .exact dm h fun _ _ h=>nU h fun _ _ _ h=>dK h
   .exact dK h) fun _ _ _ h=>dm h fun _ _ h=>dK h
theorem EM(h:Sq r r'):SR (gJ N r) (gJ N' r'):=by
 refine sQ (fun l r r' h=>?_) _ h;rcases qn pi h with⟨e1,e2⟩|⟨a,b,e1,e2,h1⟩
 .rcases qn lj h with⟨f1,f2⟩|⟨a,b,f1,f2,h1⟩
  .rcases qn lv h with⟨g1,g2⟩|⟨a,b,g1,g2,h1⟩
   .simp only[e1,e2,f1,f2,g1,g2];exact .inl ⟨trivial,trivial⟩
   .simp only[e1,e2,f1,f2,g1,g2];exact .inr ⟨_,_,rfl,rfl,cm (sg 0 h1) fun _ _ _ h=>dK h⟩
  .simp only[e1,e2,f1,f2];exact .inr ⟨_,_,rfl,rfl,cm (sg 2 h1) fun _ _ _ h=>dK h⟩
 .simp only[e1,e2];exact .inr ⟨_,_,rfl,rfl,cm (sg 1 h1) fun _ _ _ h=>dK h⟩
theorem GF(h:Sq r r'):SR (iI N r) (iI N' r'):=by
 unfold iI;refine lz h fun s a b h=>?_;have hb:SR (fK N (jM N) a) (fK N' (jM N') b):=rr (fun l _ _ h=>by rw[jf,jf];exact Kc l h) h;generalize fK N (jM N) a=x at *;generalize fK N' (jM N') b=y at *;exact cm hb fun _ _ _ h=>dK h
theorem C0(h:Sq r r'):SR (iZ N r) (iZ N' r'):=sD (fun _ _=>GF) [] h
theorem HT(h:Sq r r'):SR (lE N r) (lE N' r'):=
 dm h fun _ _ h=>lz h fun _ _ _ h=>cm (iM h (fun _ _ h=>lz h fun _ _ _ h=>dK h) (dK h)) fun _ _ _ h=>dm h fun _ _ h=>cm (EM h) fun _ _ _ h=>cm (C0 h) fun _ _ _ h=>dm h fun _ _ h=>dK h
theorem xf(h:Sq r r'):r.isEmpty=r'.isEmpty:=by
 have hl:=h.len;cases r<;>cases r'<;>first|rfl|(simp at hl;done)
theorem L7{p p':List Tok->CP α}(hp:∀r r',Sq r r'->SR (p r) (p' r'))(h:Sq r r'):
 SR (db (fun l r=>if r.isEmpty=true then none else some ((p r).bind fun x r1=>.ok (l++[x]) r1)) [] r) (db (fun l r=>if r.isEmpty=true then none else some ((p' r).bind fun x r1=>.ok (l++[x]) r1)) [] r'):=by
 refine sQ (fun l r r' h=>?_) _ h;rw[xf h];cases r'.isEmpty with
 | true=>exact .inl ⟨rfl,rfl⟩
 | false=>exact .inr ⟨_,_,rfl,rfl,cm (hp _ _ h) fun _ _ _ h=>dK h⟩
theorem FH(h:Sq r r'):SR (iS N r) (iS N' r'):=L7 (fun _ _=>JI) h
theorem KD(h:Sq r r'):SR (pz N r) (pz N' r'):=cm (HT h) fun _ _ _ h=>by
 rw[xf h];split
 .exact dK h
 .exact rG h
end
end Go.Proofs.YtnhphlmblenapaaGreatDoor
namespace Go.Proofs.YtnhphlmblenapaaGreatDoor
open Go.RowKit
theorem Sq.app{a b c d:List Tok}(h:Sq a b)(h2:Sq c d):Sq (a++c) (b++d):=by
 show(a++c).map ln1=(b++d).map ln1;rw[T6,T6];exact congr (congrArg _ h) h2
def Tz(b:Bs)(T:List Tok)(q:Bs):Prop:=∀N ts,gk N q=.ok ts->∃T',Sq T' T/\gk N (b++q)=.ok (T'++ts)
theorem Tz.app{a b q:Bs}{T U:List Tok}(h:Tz a T (b++q))(h2:Tz b U q):Tz (a++b) (T++U) q:=fun N ts ht=>by
 obtain⟨U',s1,e1⟩:=h2 N ts ht;obtain⟨T',s2,e2⟩:=h N _ e1;exact⟨T'++U',s2.app s1,by rw[TY,e2,TY]⟩
theorem th(q:Bs):Tz [] [] q:=fun N ts h=>⟨[],.refl _,h⟩
theorem tC{c:UInt8}(hc:lT c=true)(q:Bs):Tz [c] [] q:=fun N ts h=>by
 refine⟨[],.refl _,?_⟩;show gk N (c::q)=_;rw[<-uZ,Am hc,uZ];exact h
theorem uN:∀(n:Nat) (q:Bs),Tz (List.replicate n 32) [] q
 | 0,q=>th q
 | n+1,q=>by
  rw[List.replicate_succ];exact Tz.app (a:=[32]) (tC (by decide) _) (uN n q)
theorem M4{t:Tok}{q:Bs}(h:Fine t q):Tz t.text.data.toList [t] q:=fun N ts ht=>by
 have hs:=h.s;have hr:=h.r;have hn:=h.n;have htx:=pE t.text;rw[cK,hs];have hlen:(t.text.data.toList++q).drop t.text.data.toList.length=q:=by simp
 have htk:(t.text.data.toList++q).take t.text.data.toList.length=t.text.data.toList:=by simp
 generalize hg:t.text.data.toList++q=g at *
 match g,hg with
 | [],hg=>simp at hg;exact absurd hg.1 (by simpa using hn)
 | c::g,hg=>
  simp only[hr];rw[hlen,ht];refine⟨[iO N (c::g) t.kind t.num t.text.data.toList.length],?_,rfl⟩;show[ln1 (iO N (c::g) t.kind t.num t.text.data.toList.length)]=[ln1 t]
  unfold ln1 iO;simp only[htk,htx]
theorem Ha:∀(X:Pc) (q:Bs),good X q->Tz (txt X) (tks X) q
 | [],q,_=>th q
 | none::r,q,h=>Tz.app (a:=[32]) (T:=[]) (tC (by decide) _) (Ha r q h)
 | some t::r,q,h=>Tz.app (T:=[t]) (M4 h.1) (Ha r q h.2)
theorem F1(k:Nat)(b:Bs):lnT k (0,b)=blk k++(b++[10]):=rfl
theorem KE{X:Pc}(h:∀q,good X (10::q))(k:Nat)(q:Bs):Tz (lnT k (0,txt X)) (tks X) q:=by
 rw[F1];have h1:Tz (txt X++[10]) (tks X++[]) q:=Tz.app (Ha X _ (h q)) (tC (by decide) q);rw[TV]at h1;exact Tz.app (T:=[]) (uN _ _) h1
theorem D0:∀n:Nat,n<256->cT [59,UInt8.ofNat n]=1:=by decide +kernel
theorem zr:([59]:Bs)∈aY/\cT [59]=1/\bq (tm (aa 59))=true/\iz 59=false/\d5 59=false/\lT 59=false:=by decide +kernel
theorem jb(q:Bs):Fine (tm (aa 59)) q:=by
 obtain⟨h1,h2,h3,h4,h5,h6⟩:=zr
 have hb:cT (59::q)=1:=by
  rw[pQ]
  match q with
  | []=>exact h2
  | x::q=>
   have:=D0 x.toNat x.toNat_lt;rw[UInt8.ofNat_toNat]at this;exact this
 refine⟨h3,by simp[tm,aa],?_,d8 h6 (by decide)⟩;show cB (59::q)=.tok 4 0 1;have e:(59:UInt8).toNat=59:=rfl;simp only[cB,e,h4,h5,hb];rfl
theorem LR{c:UInt8}{q:Bs}(h:(inn c=false/\c≠61/\c≠62)):Hq (c::q):=fun x hx=>by
 simp only[T7,Option.some.injEq]at hx;subst hx;exact h
theorem RC{c:UInt8}{q:Bs}(h:c≠61/\c≠62):Kq (c::q):=fun x hx=>by
 simp only[T7,Option.some.injEq]at hx;subst hx;exact h
theorem sol{c:UInt8}(h:c∈qO)(d:UInt8)(hd:d≠61/\d≠62)(q:Bs):Fine (tm (aa c)) (d::q):=qk h (RC hd)
theorem wrd{t:Tok}(h:bq t=true)(hk:t.kind≠4)(d:UInt8)(hd:inn d=false/\d≠61/\d≠62)(q:Bs):Fine t (d::q):=qc h hk (LR hd)
def lI(s:ByteArray):Pc:=if fc s=true then[some (tn (ff s 91)),some (tm (aa 91)),some (td (ci s)),some (tm (aa 93))]else[some (tn s)]
def j6:List Pc->Pc
 | []=>[]
 | a::r=>a++r.flatMap fun b=>some (tm (aa 44))::none::b
def vE(w:Wt):Pc:=some (td w.lo)::((if w.hi=w.lo then[]else[none,some (tm (aE 46 46)),none,some (td w.hi)])++[none,some (tm (if w.each=true then aE 58 61 else aE 58 47)),none,some (td w.w)])
theorem Bx(s:ByteArray):tks (lI s)=iK s:=by unfold lI iK;split<;>rfl
theorem BN(l:List Pc):tks (j6 l)=jT (l.map tks):=by
 cases l with
 | nil=>rfl
 | cons a r=>
  rw[j6,dS,T0,jT];congr 1
  induction r with
  | nil=>rfl
  | cons b r ih=>rw[TX,T0,TX,dS,ih];rfl
theorem ML(w:Wt):tks (vE w)=yB w:=by
 unfold vE yB;split<;>rfl
theorem Bi(l:List Pc):txt (j6 l)=jk [44,32] (l.map txt):=by
 cases l with
 | nil=>rfl
 | cons a r=>
  rw[j6,b8,T0]
  induction r generalizing a with
  | nil=>rw[List.flatMap_nil,List.map_nil,jk];exact TV _
  | cons b r ih=>
   rw[TX,T0,jk,<-ih b];congr 1;rw[b8];rfl
theorem pX{n:Int}(h:0≤n):(td n).text.data.toList=lC n:=by
 show(rH n).data.toList=_;unfold lC;rw[Lib.itoa,if_neg (by omega)];rfl
theorem A2{s:ByteArray}(h:bv s=true):txt (lI s)=bw s:=by
 unfold lI;by_cases he:fc s=true
 .rw[if_pos he];obtain⟨h1,h2,h3,h4⟩:=dX he;have e:=congrArg (fun b:ByteArray=>b.data.toList) h4;unfold bw;rw[<-e];simp only[txt,iP,ByteArray.data_append,Array.toList_append,TV];rfl
 .rw[if_neg he];exact TV _
theorem xM{s:ByteArray}(h:bv s=true)(d:UInt8)(hd:inn d=false/\d≠61/\d≠62)(q:Bs):good (lI s) (d::q):=by
 unfold lI;by_cases he:fc s=true
 .rw[if_pos he];obtain⟨h1,h2,h3,h4⟩:=dX he;have hv:=fU h2 (by omega);have hh:=j7 hv (ko _) [some (tm (aa 93))];exact⟨wrd (cM h1) (jK _) 91 (by decide) _,qk (by decide) (hh.q _),wrd hv (ko _) 93 (by decide) _,sol (by decide) d hd.2 q,trivial⟩
 .rw[if_neg he];have hn:aS s=true:=by unfold bv at h;simpa[he]using h
  exact⟨wrd (cM hn) (jK _) d hd q,trivial⟩
theorem Hk(d:UInt8)(hd:inn d=false/\d≠61/\d≠62)(q:Bs):∀l:List Pc,(∀X,X∈l->∀d:UInt8,inn d=false/\d≠61/\d≠62->∀q,good X (d::q))->good (j6 l) (d::q)
 | [],_=>trivial
 | a::r,h=>by
  rw[j6]
  have H:∀r:List Pc,(∀X,X∈r->∀d:UInt8,inn d=false/\d≠61/\d≠62->∀q,good X (d::q))->good (r.flatMap fun b=>some (tm (aa 44))::none::b) (d::q):=by
   intro r
   induction r with
   | nil=>intro _;trivial
   | cons b r ih=>
    intro h;rw[TX];refine cI _ _ _ (aI (kQ _ (by simp)) ?_) (ih fun X hX=>h X (by simp[hX]));cases r with
    | nil=>exact h b (by simp) d hd q
    | cons c r=>exact h b (by simp) 44 (by decide) _
  refine cI _ _ _ ?_ (H r fun X hX=>h X (by simp[hX]));cases r with
  | nil=>exact h a (by simp) d hd q
  | cons b r=>exact h a (by simp) 44 (by decide) _
theorem KP{w:Wt}(h:wtB w=true)(d:UInt8)(hd:inn d=false/\d≠61/\d≠62)(q:Bs):good (vE w) (d::q):=by
 unfold wtB at h;simp only[TU,decide_eq_true_eq]at h;obtain⟨⟨⟨⟨h1,h2⟩,h3⟩,h4⟩,h5⟩:=h
 have fin:good [some (tm (if w.each=true then aE 58 61 else aE 58 47)),none,some (td w.w)] (d::q):=by
  refine aI ?_ ⟨wrd (fU h4 (by omega)) (ko _) d hd q,trivial⟩;cases w.each<;>exact kQ _ (by simp)
 unfold vE;by_cases e:w.hi=w.lo
 .rw[if_pos e];exact⟨wrd (fU h1 (by omega)) (ko _) 32 (by decide) _,fin⟩
 .rw[if_neg e];exact⟨wrd (fU h1 (by omega)) (ko _) 32 (by decide) _,aI (kQ _ (by simp)) ⟨wrd (fU (by omega) h3) (ko _) 32 (by decide) _,fin⟩⟩
theorem LF{w:Wt}(h:wtB w=true):txt (vE w)=wtT w:=by
 unfold wtB at h;simp only[TU,decide_eq_true_eq]at h;obtain⟨⟨⟨⟨h1,h2⟩,h3⟩,h4⟩,h5⟩:=h;have e1:=pX h1;have e2:=pX (n:=w.hi) (by omega);have e3:=pX h4;unfold vE wtT;by_cases e:w.hi=w.lo
 .rw[if_pos e,if_pos e];cases w.each<;>simp[txt,e1,e3,tm,aE]
 .rw[if_neg e,if_neg e];cases w.each<;>simp[txt,e1,e2,e3,tm,aE]
theorem oX(t:Tok)(X:Pc):txt (some t::X)=t.text.data.toList++txt X:=rfl
theorem tj(t:Tok)(X:Pc):tks (some t::X)=t::tks X:=rfl
theorem qA(X:Pc):tks (none::X)=tks X:=rfl
theorem oL(X:Pc):txt (none::X)=32::txt X:=rfl
theorem fV{X:Pc}{b:Bs}{T:List Tok}(h:∀q,good X (10::q))(hb:txt X=b)(hT:tks X=T)(k:Nat)(q:Bs):Tz (lnT k (0,b)) T q:=by
 subst hb hT;exact KE h k q
theorem gP(k:Nat)(x:Ln):aZ k [x]=lnT k x:=by unfold aZ;simp
theorem mn(k:Nat)(q:Bs):Tz (lnT k (0,[125])) [tm (aa 125)] q:=fV (X:=[some (tm (aa 125))]) (fun q=>⟨sol (by decide) 10 (by decide) q,trivial⟩) rfl rfl k q
theorem Bh{e:Ex}(h:bz e=0){q:Bs}(hq:Hq q):good (pcE e) q:=(GS e (fZ h)).g q hq
def O8(l:List It):Prop:=∀d,rvl l d=0->∀(k:Nat) (q:Bs),Tz (aZ k (lns l)) (df l) q
theorem Jq{x:It}{d:Nat}(hs:bP x d=0)(h1:∀k q,Tz (aZ k (lns x.items)) (df x.items) q)(h2:∀k q,Tz (aZ k (lns x.els)) (df x.els) q)(k:Nat)(q:Bs):Tz (aZ k (fJ x)) (gX x) q:=by
 have wv:∀w,w∈[jU,jQ,ifW,gj,iQ,inW,gH,nd,pi,lj,lv,kh,iF,bS]->bq (tw w)=true:=qx;rcases nT hs with⟨kd,e,hk,he,rfl⟩|⟨s,ws,g1,g2,g3,rfl⟩|⟨e,l,m,he,rfl⟩|⟨s,i,l,g1,g2,rfl⟩|⟨l,m,g1,g2,g3,g4,rfl⟩
 .have hg:∀q,good (pcE e++[some (tm (aa 59))]) (10::q):=fun q=>cI _ _ _ (Bh he (LR (by decide))) ⟨jb _,trivial⟩;have ht:txt (pcE e++[some (tm (aa 59))])=bh e++[59]:=by rw[b8];rfl
  have hk2:tks (pcE e++[some (tm (aa 59))])=aW e++[tm (aa 59)]:=by rw[dS,yI];rfl
  rcases hk with rfl|rfl
  .rw[fJ,if_pos rfl,gP,gX,if_pos rfl];exact fV hg ht hk2 k q
  .rw[fJ,if_neg (by decide),if_pos rfl,gP,gX,if_neg (by decide),if_pos rfl];exact fV (X:=some (tw jU)::none::(pcE e++[some (tm (aa 59))])) (fun q=>aI (wv _ (by simp)) (hg q)) (by rw[oX,oL,ht];rfl) (by rw[tj,qA,hk2]) k q
 .rw[fJ,if_neg (by decide),if_neg (by decide),if_pos rfl,gP,gX,if_neg (by decide),if_neg (by decide),if_pos rfl]
  have hw:txt (j6 (ws.map vE))=rc ws:=by
   rw[Bi,T3];unfold rc;congr 1;exact TW fun w hw=>LF (g3 w hw)
  have hwk:tks (j6 (ws.map vE))=jT (ws.map yB):=by
   rw[BN,T3];congr 1;exact TW fun w hw=>ML w
  refine fV (X:=some (tw jQ)::none::(lI s++none::some (tm (aa 123))::none::(j6 (ws.map vE)++[none,some (tm (aa 125)),some (tm (aa 59))]))) (fun q=>aI (wv _ (by simp)) (cI _ _ _ (xM g1 32 (by decide) _) (aI (kQ _ (by simp)) (cI _ _ _ (Hk 32 (by decide) _ _ fun X hX d hd q=>?_) ⟨sol (by decide) 59 (by decide) _,jb _,trivial⟩)))) ?_ ?_ k q
  .obtain⟨w,hw,rfl⟩:=List.mem_map.1 hX;exact KP (g3 w hw) d hd q
  .rw[oX,oL,b8,A2 g1,oL,oX,oL,b8,hw];rfl
  .rw[tj,qA,dS,Bx,qA,tj,qA,dS,hwk];rfl
 .have h1:=h1 (k+1);have h2:=h2 (k+1);rw[e8]at h1;rw[lr]at h2;rw[fJ,if_neg (show ¬(4:Int)=1 by decide),if_neg (show ¬(4:Int)=2 by decide),if_neg (show ¬(4:Int)=3 by decide),if_pos rfl,gX,if_neg (show ¬(4:Int)=1 by decide),if_neg (show ¬(4:Int)=2 by decide),if_neg (show ¬(4:Int)=3 by decide),if_pos rfl]
  have hl:∀q,Tz (lnT k (0,[105,102,32,40]++(bh e++[41,32,123]))) (tw ifW::tm (aa 40)::(aW e++[tm (aa 41),tm (aa 123)])) q:=fun q=>
   fV (X:=some (tw ifW)::none::some (tm (aa 40))::(pcE e++[some (tm (aa 41)),none,some (tm (aa 123))])) (fun q=>aI (wv _ (by simp)) (dF (by decide) (((GS e (fZ he)).h.app _).q _) (cI _ _ _ (Bh he (LR (by decide))) (aI (kQ _ (by simp)) ⟨sol (by decide) 10 (by decide) _,trivial⟩))))
    (by rw[oX,oL,oX,b8];rfl) (by rw[tj,qA,tj,dS,yI];rfl) k q
  have hr:∀q,Tz (aZ k ((if m.isEmpty=true then[]else(0,[125,32,101,108,115,101,32,123])::upL (lns m))++[(0,[125])])) (tm (aa 125)::(if m.isEmpty=true then[]else tw gj::tm (aa 123)::(df m++[tm (aa 125)]))) q:=fun q=>by
   cases m with
   | nil=>simp only[T4,if_true,TZ];rw[gP];exact mn k q
   | cons y m=>
    rw[if_neg (by simp),if_neg (by simp),List.cons_append,aM,bj,ed,gP];have hel:∀q,Tz (lnT k (0,[125,32,101,108,115,101,32,123])) [tm (aa 125),tw gj,tm (aa 123)] q:=fun q=>fV (X:=[some (tm (aa 125)),none,some (tw gj),none,some (tm (aa 123))]) (fun q=>aI (kQ _ (by simp)) (aI (wv _ (by simp)) ⟨sol (by decide) 10 (by decide) _,trivial⟩)) rfl rfl k q;exact Tz.app (T:=[tm (aa 125),tw gj,tm (aa 123)]) (hel _) (Tz.app (h2 _) (mn k q))
  rw[aM,bj,ed];have:=Tz.app (hl _) (Tz.app (h1 _) (hr q));simpa using this
 .have h1:=h1 (k+1);rw[e8]at h1;rw[fJ,if_neg (by decide),if_neg (by decide),if_neg (by decide),if_neg (by decide),if_pos rfl,gX,if_neg (by decide),if_neg (by decide),if_neg (by decide),if_neg (by decide),if_pos rfl]
  have hl:∀q,Tz (lnT k (0,[101,97,99,104,32]++(bw i++([32,105,110,32]++(bw s++[32,123]))))) [tw iQ,tn i,tw inW,tn s,tm (aa 123)] q:=fun q=>
   fV (X:=[some (tw iQ),none,some (tn i),none,some (tw inW),none,some (tn s),none,some (tm (aa 123))]) (fun q=>aI (wv _ (by simp)) (aI (cM g2) (aI (wv _ (by simp)) (aI (cM g1) ⟨sol (by decide) 10 (by decide) _,trivial⟩)))) (by simp[txt,tw,tn,tm,aa,iQ,inW,bw]) rfl k q
  rw[aM,bj,ed,gP];have:=Tz.app (hl _) (Tz.app (h1 _) (mn k q));simpa using this
 .rw[fJ,if_neg (by decide),if_neg (by decide),if_neg (by decide),if_neg (by decide),if_neg (by decide),gP,gX,if_neg (by decide),if_neg (by decide),if_neg (by decide),if_neg (by decide),if_neg (by decide)]
  have hv:∀l:List ByteArray,(∀s,s∈l->bv s=true)->txt (j6 (l.map lI))=jk [44,32] (l.map bw)/\tks (j6 (l.map lI))=jT (l.map iK)/\∀(d:UInt8),inn d=false/\d≠61/\d≠62->∀q,good (j6 (l.map lI)) (d::q):=fun l hl=>by
   refine⟨?_,?_,fun d hd q=>Hk d hd q _ fun X hX d hd q=>?_⟩
   .rw[Bi,T3];congr 1;exact TW fun s hs=>A2 (hl s hs)
   .rw[BN,T3];congr 1;exact TW fun s hs=>Bx s
   .obtain⟨s,hs,rfl⟩:=List.mem_map.1 hX;exact xM (hl s hs) d hd q
  obtain⟨a1,a2,a3⟩:=hv l g3;obtain⟨b1,b2,b3⟩:=hv m g4;refine fV (X:=some (tw gH)::none::(j6 (l.map lI)++none::some (tw nd)::none::(j6 (m.map lI)++[some (tm (aa 59))]))) (fun q=>aI (wv _ (by simp)) (cI _ _ _ (a3 32 (by decide) _) (aI (wv _ (by simp)) (cI _ _ _ (b3 59 (by decide) _) ⟨jb _,trivial⟩)))) ?_ ?_ k q
  .rw[oX,oL,b8,a1,oL,oX,oL,b8,b1];rfl
  .rw[tj,qA,dS,a2,qA,tj,qA,dS,b2];rfl
theorem FV:∀l,O8 l:=by
 refine lx (fun d _ k q=>th q) fun x l h1 h2 h3 d h k q=>?_;obtain⟨hs,e1,e2,e3⟩:=mU h;rw[lns,bj,df];exact Tz.app (Jq hs (h1 _ e1) (h2 _ e2) k _) (h3 d e3 k q)
end Go.Proofs.YtnhphlmblenapaaGreatDoor
