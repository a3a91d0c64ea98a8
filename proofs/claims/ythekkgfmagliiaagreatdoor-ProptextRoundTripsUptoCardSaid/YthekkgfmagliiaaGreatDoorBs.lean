import Derived.Lib.ItoaNum
import Derived.Test.YthekkgfmagliiaaGreatDoorNames
import Derived.Test.YthekkgfmagliiaaGreatDoorA20
set_option linter.unusedVariables false
set_option linter.unusedSimpArgs false
set_option linter.unusedSectionVars false
open Bool renaming and_eq_true->RS,or_eq_true->RU,false_eq_true->RW,not_eq_true'->RX
open List renaming cons_append->RY,eq_nil_of_length_eq_zero->RZ,takeWhile_cons_of_pos->R0,takeWhile_cons_of_neg->R5,nil_append->R6,dropWhile_cons_of_pos->R7,dropWhile_cons_of_neg->R8,isPrefixOf->R9,suffix_refl->Sa,length_drop->Sb,take_append_of_le_length->Sc,dropWhile_suffix->Sd,mem_singleton->Se,length_cons->Sf,foldl_cons->Si,foldl_nil->Sj
open Nat renaming strongRecOn->Sk,le_trans->Sl,le_refl->Sm
namespace Go.Proofs.YthekkgfmagliiaaGreatDoor
open Go.RowKit
abbrev Bs:=List UInt8
def inn(c:UInt8):Bool:=fm c.toNat
def j9(c:UInt8):Bool:=c==32||c==9||c==10
def si:Nat->Bs->Bs
 | 0,l=>l
 | _+1,[]=>[]
 | k+1,c::r=>if j9 c=true then si k r else if c=47/\r.head? = some 47 then si k ((c::r).dropWhile (· != 10))else c::r
def bM(l:Bs):Bs:=si l.length l
theorem ka{c:UInt8}{r:Bs}(h:c=47):((c::r).dropWhile (· != 10)).length≤r.length:=by
 subst h;rw[R7 (by decide)];exact List.IsSuffix.length_le (Sd _)
theorem G8:∀(k:Nat) (l:Bs),l.length≤k->si k l=bM l:=by
 intro k
 induction k using Sk with
 | ind k ih=>
 intro l hk
 match l with
 | []=>cases k<;>rfl
 | c::r=>
  match k with
  | 0=>simp at hk
  | k+1=>
   have hr:r.length≤k:=by simpa using hk
   unfold bM;simp only[Sf,si];split
   .by_cases e:r.length<k
    .rw[ih k (by omega) r hr];rfl
    .have:r.length=k:=by omega
     rw[this]
   .split
    .rename_i h;have hd:=ka (r:=r) h.1;rw[ih k (by omega) _ (by omega)];by_cases e:r.length<k+1
     .exact(ih r.length e _ hd).symm
     .omega
    .rfl
theorem dZ:bM []=[]:=rfl
theorem du(c:UInt8)(r:Bs):bM (c::r)=if j9 c=true then bM r else if c=47/\r.head? = some 47 then bM ((c::r).dropWhile (· != 10))else c::r:=by
 show si (r.length+1) (c::r)=_;rw[si];split
 .rfl
 .split
  .rename_i h;exact G8 _ _ (ka h.1)
  .rfl
theorem vN:∀(k:Nat) (l:Bs),l.length≤k->bM l <:+ l:=by
 intro k
 induction k with
 | zero=>intro l h;have:l=[]:=RZ (by omega);subst this;exact Sa _
 | succ k ih=>
  intro l h
  match l with
  | []=>exact Sa _
  | c::r=>
   have hr:r.length≤k:=by simpa using h
   rw[du];split
   .exact(ih r hr).trans (List.suffix_cons _ _)
   .split
    .rename_i hc;exact(ih _ (Sl (ka hc.1) hr)).trans (Sd _)
    .exact Sa _
theorem eU(l:Bs):bM l <:+ l:=vN _ l (Sm _)
theorem mi(l:Bs):bM (bM l)=bM l:=by
 suffices H:∀(k:Nat) (l:Bs),l.length≤k->bM (bM l)=bM l from H _ l (Sm _)
 intro k
 induction k with
 | zero=>intro l h;have:l=[]:=RZ (by omega);subst this;rfl
 | succ k ih=>
  intro l h
  match l with
  | []=>rfl
  | c::r=>
   have hr:r.length≤k:=by simpa using h
   rw[du];split
   .exact ih r hr
   .split
    .rename_i hc;exact ih _ (Sl (ka hc.1) hr)
    .rename_i h1 h2;rw[du,if_neg h1,if_neg h2]
def aS:List Bs:=[[40],[41],[123],[125],[91],[93],[44],[59],[58],[46,46],[63],[61],[61,61],[33,61],[60],[60,61],[62],[62,61],[60,60],[62,62],[43],[45],[42],[38],[124],[94],[126],[33],[38,38],[124,124],[45,62],[61,62],[58,61],[58,47],[35,35],[64]]
def fR:List Bs->Nat->Bs->Nat
 | [],b,_=>b
 | m::r,b,l=>fR r (if b<m.length/\m.isPrefixOf l=true then m.length else b) l
def cG(l:Bs):Nat:=fR aS 0 l
def eS(l:Bs):Nat:=l.foldl (fun n c=>10*n+(c.toNat-48)) 0
inductive Rd where
 | err (e:Int)
 | tok (kind num:Int) (len:Nat)
def bY:Bs->Rd
 | []=>.err 5
 | c::r=>
  if fj c.toNat=true then
   if 16<((c::r).takeWhile inn).length then .err 2
   else .tok (if inB ⟨((c::r).takeWhile inn).toArray⟩ dn=true then 2 else 1) 0 ((c::r).takeWhile inn).length
  else if cZ c.toNat=true then
   if(((c::r).takeWhile inn).all fun x=>cZ x.toNat)=false\/(1<((c::r).takeWhile inn).length/\c=48)then .err 5
   else if 2147483647<eS ((c::r).takeWhile inn)then .err 3
   else .tok 3 (eS ((c::r).takeWhile inn)) ((c::r).takeWhile inn).length
  else if cG (c::r)=0 then .err 5 else .tok 4 0 (cG (c::r))
structure Tok where
 kind:Int
 num:Int
 text:ByteArray
 line:Int
inductive Lx where
 | ok (l:List Tok)
 | err (line e:Int)
def Lx.cons(t:Tok):Lx->Lx
 | .ok l=>.ok (t::l)
 | .err n e=>.err n e
def Lx.app(ts:List Tok):Lx->Lx
 | .ok l=>.ok (ts++l)
 | .err n e=>.err n e
def gJ(N:Int)(r:Bs)(kind num:Int)(len:Nat):Tok:=⟨kind,num,⟨(r.take len).toArray⟩,N-(r.count 10:Nat)⟩
def DG:Nat->Int->Bs->Lx
 | 0,_,_=>.ok []
 | k+1,N,l=>match bM l with
  | []=>.ok []
  | c::r=>match bY (c::r)with
   | .err e=>.err (N-((c::r).count 10:Nat)) e
   | .tok kind num len=>(DG k N ((c::r).drop len)).cons (gJ N (c::r) kind num len)
def d8(N:Int)(l:Bs):Lx:=DG (l.length+1) N l
def dP(l:Bs):Lx:=d8 (1+(l.count 10:Nat)) l
theorem qy:∀(ms:List Bs) (b:Nat) (l:Bs),fR ms b l=b\/∃m,m∈ms/\m.isPrefixOf l=true/\fR ms b l=m.length
 | [],b,l=>.inl rfl
 | m::r,b,l=>by
  simp only[fR];split
  .rename_i h;rcases qy r m.length l with h1|⟨m',h1,h2,h3⟩
   .exact .inr ⟨m,by simp,h.2,h1⟩
   .exact .inr ⟨m',by simp[h1],h2,h3⟩
  .rcases qy r b l with h1|⟨m',h1,h2,h3⟩
   .exact .inl h1
   .exact .inr ⟨m',by simp[h1],h2,h3⟩
theorem A8(l:Bs):cG l≤l.length/\cG l≤2:=by
 rcases qy aS 0 l with h|⟨m,h1,h2,h3⟩
 .unfold cG;rw[h];omega
 .have h4:=(List.isPrefixOf_iff_prefix.1 h2).length_le;have h5:m.length≤2:=(by decide:∀m,m∈aS->m.length≤2) m h1;unfold cG;omega
theorem jU{l:Bs}{kind num:Int}{len:Nat}(h:bY l=.tok kind num len):1≤len/\len≤l.length:=by
 match l with
 | []=>cases h
 | c::r=>
  have htw:((c::r).takeWhile inn).length≤(c::r).length:=(List.takeWhile_prefix _).length_le;have h1:inn c=true->1≤((c::r).takeWhile inn).length:=fun hi=>by rw[R0 hi];simp
  simp only[bY]at h;split at h
  .rename_i hl;split at h
   .cases h
   .cases h;exact⟨h1 (by unfold inn fm;simp[hl]),htw⟩
  .split at h
   .rename_i hd;split at h
    .cases h
    .split at h
     .cases h
     .cases h;exact⟨h1 (by unfold inn fm;simp[hd]),htw⟩
   .split at h
    .cases h
    .cases h;have:=A8 (c::r);omega
theorem JH:∀(k:Nat) (N:Int) (l:Bs),l.length<k->DG k N l=d8 N l:=by
 intro k
 induction k using Sk with
 | ind k ih=>
 intro N l hk
 match k with
 | 0=>omega
 | k+1=>
  unfold d8;simp only[DG];have hs:=(eU l).length_le;cases hsk:bM l with
  | nil=>rfl
  | cons c r=>
   rw[hsk]at hs;simp only;cases hrd:bY (c::r)with
   | err e=>rfl
   | tok kind num len=>
    obtain⟨h1,h2⟩:=jU hrd;have h3:((c::r).drop len).length<l.length:=by rw[Sb];omega
    simp only;rw[ih k (by omega) N _ (by omega)];by_cases e:l.length<k+1
    .rw[ih l.length (by omega) N _ h3]
    .omega
theorem bF(N:Int)(l:Bs):d8 N l=match bM l with
 | []=>.ok []
 | c::r=>match bY (c::r)with
  | .err e=>.err (N-((c::r).count 10:Nat)) e
  | .tok kind num len=>(d8 N ((c::r).drop len)).cons (gJ N (c::r) kind num len):=by
 have:d8 N l=DG (l.length+1) N l:=rfl;rw[this,DG];have hs:=(eU l).length_le;cases hsk:bM l with
 | nil=>rfl
 | cons c r=>
  rw[hsk]at hs;simp only;cases hrd:bY (c::r)with
  | err e=>rfl
  | tok kind num len=>
   obtain⟨h1,h2⟩:=jU hrd;simp only;rw[JH _ N _ (by rw[Sb];omega)]
theorem mK{p:UInt8->Bool}:∀{t q:Bs},(∀x,x∈t->p x=true)->(∀x,q.head? = some x->p x=false)->(t++q).takeWhile p=t
 | [],[],_,_=>rfl
 | [],x::q,_,h=>by rw[R6,R5 (by rw[h x rfl];decide)]
 | a::t,q,ht,h=>by
  rw[RY,R0 (ht a (by simp)),mK (fun x hx=>ht x (by simp[hx])) h]
theorem BN{p:UInt8->Bool}{x:UInt8}(hx:p x=false):∀(l q:Bs),(l++x::q).takeWhile p=l.takeWhile p
 | [],q=>by rw[R6,R5 (by rw[hx];decide)];rfl
 | a::l,q=>by
  by_cases h:p a=true
  .rw[RY,R0 h,R0 h,BN hx l q]
  .rw[RY,R5 h,R5 h]
theorem pK:∀m,m∈aS->∀x,x∈m->x≠10:=by decide
theorem pW:∀m,m∈aS->m.length≤2:=by decide
theorem wC{m l q:Bs}(hm:∀x,x∈m->x≠10):m.isPrefixOf (l++10::q)=m.isPrefixOf l:=by
 induction m generalizing l with
 | nil=>simp
 | cons a m ih=>
  cases l with
  | nil=>
   have:(a==(10:UInt8))=false:=beq_eq_false_iff_ne.2 (hm a (by simp));simp[R9,this]
  | cons b l=>simp only[RY,R9,ih (l:=l) (fun x hx=>hm x (by simp[hx]))]
theorem Ej(l q:Bs):cG (l++10::q)=cG l:=by
 suffices H:∀(ms:List Bs),(∀m,m∈ms->m∈aS)->∀b,fR ms b (l++10::q)=fR ms b l from H aS (fun _ h=>h) 0
 intro ms
 induction ms with
 | nil=>intro _ b;rfl
 | cons m ms ih=>
  intro h b;simp only[fR,wC (pK m (h m (by simp)))];exact ih (fun x hx=>h x (by simp[hx])) _
theorem CG{l:Bs}(h:l≠[])(q:Bs):bY (l++10::q)=bY l:=by
 match l,h with
 | c::r,_=>
  have h1:=BN (p:=inn) (x:=10) (by decide) (c::r) q;have h2:=Ej (c::r) q;rw[RY]at h1 h2 ⊢;simp only[bY,h1,h2]
theorem A3{p:UInt8->Bool}{x:UInt8}(hx:p x=false):∀(l q:Bs),(l++x::q).dropWhile p=l.dropWhile p++x::q
 | [],q=>by rw[R6,R8 (by rw[hx];decide)];rfl
 | a::l,q=>by
  by_cases h:p a=true
  .rw[RY,R7 h,R7 h,A3 hx l q]
  .rw[RY,R8 h,R8 h];rfl
theorem ue:∀(k:Nat) (l q:Bs),l.length≤k->bM (l++10::q)=if bM l=[]then bM q else bM l++10::q:=by
 intro k;have nl:∀q,bM (10::q)=bM q:=fun q=>by rw[du,if_pos (by decide)]
 induction k with
 | zero=>
  intro l q h;have:l=[]:=RZ (by omega);subst this;rw[R6,nl,dZ,if_pos rfl]
 | succ k ih=>
  intro l q h
  match l with
  | []=>rw[R6,nl,dZ,if_pos rfl]
  | c::r=>
   have hr:r.length≤k:=by simpa using h
   rw[RY,du,du];by_cases hb:j9 c=true
   .rw[if_pos hb,if_pos hb];exact ih r q hr
   .rw[if_neg hb,if_neg hb];by_cases hc:c=47/\r.head? = some 47
    .have hc2:c=47/\(r++10::q).head? = some 47:=⟨hc.1,by
      cases r with
      | nil=>simp at hc
      | cons a r=>simpa using hc.2⟩
     rw[if_pos hc,if_pos hc2,<-RY,A3 (by decide)];exact ih _ q (Sl (ka hc.1) hr)
    .have hc2:¬(c=47/\(r++10::q).head? = some 47):=by
      rintro⟨h1,h2⟩;cases r with
      | nil=>simp at h2
      | cons a r=>exact hc ⟨h1,by simpa using h2⟩
     rw[if_neg hc,if_neg hc2,if_neg (by simp)];rfl
theorem EL:∀(k:Nat) (N:Int) (s t:Bs) (a:List Tok),s.length≤k->d8 (N-((10::t).count 10:Nat)) s=.ok a->d8 N (s++10::t)=(d8 N t).app a:=by
 intro k
 induction k with
 | zero=>
  intro N s t a h ht;have:s=[]:=RZ (by omega);subst this;rw[bF,dZ]at ht;cases ht;rw[bF,bF N t,ue 0 [] t (by simp),if_pos dZ];cases bM t with
  | nil=>rfl
  | cons c r=>
   simp only;cases bY (c::r)with
   | err e=>rfl
   | tok kd n len=>simp only;cases (d8 N ((c::r).drop len)).cons _<;>rfl
 | succ k ih=>
  intro N s t a h ht;rw[bF]at ht;rw[bF,ue _ s t (Sm _)];cases hsk:bM s with
  | nil=>
   rw[hsk]at ht;cases ht;rw[if_pos rfl,bF N t];cases bM t with
   | nil=>rfl
   | cons c r=>
    simp only;cases bY (c::r)with
    | err e=>rfl
    | tok kd n len=>simp only;cases (d8 N ((c::r).drop len)).cons _<;>rfl
  | cons c r=>
   rw[hsk]at ht;have hs:=(eU s).length_le;rw[hsk]at hs;rw[if_neg (by simp)];simp only[RY]at ht ⊢;have hrm:=CG (l:=c::r) (by simp) t;rw[RY]at hrm;rw[hrm];cases hrd:bY (c::r)with
   | err e=>rw[hrd]at ht;cases ht
   | tok kd n len=>
    rw[hrd]at ht;obtain⟨h1,h2⟩:=jU hrd;simp only at ht ⊢
    have hd:(c::(r++10::t)).drop len=(c::r).drop len++10::t:=by
     rw[<-RY,List.drop_append_of_le_length h2]
    have htk:(c::(r++10::t)).take len=(c::r).take len:=by
     rw[<-RY,Sc h2]
    have hcnt:((c::(r++10::t)).count 10:Nat)=(c::r).count 10+(10::t).count 10:=by
     rw[<-RY,List.count_append]
    rw[hd];cases hx:d8 (N-((10::t).count 10:Nat)) ((c::r).drop len)with
    | err x e=>rw[hx]at ht;cases ht
    | ok ts=>
     rw[hx]at ht;cases ht;rw[ih N _ t ts (by rw[Sb];simp only[Sf]at hs h2 ⊢;omega) hx]
     have hcut:gJ N (c::(r++10::t)) kd n len=gJ (N-((10::t).count 10:Nat)) (c::r) kd n len:=by
      unfold gJ;rw[htk,hcnt];congr 1;omega
     rw[hcut];cases d8 N t<;>rfl
def bC(t:Tok):Bool:=
 if t.kind=3 then decide (0≤t.num)&&decide (t.num≤2147483647)&&(t.text.data.toList==Lib.decDigits t.num.toNat)
 else if t.kind=1 then decide (t.num=0)&&bt t.text
 else if t.kind=2 then decide (t.num=0)&&inB t.text dn
 else if t.kind=4 then decide (t.num=0)&&aS.contains t.text.data.toList
 else false
theorem Cc{x:UInt8}(h:j9 x=true):inn x=false:=by
 simp only[j9,RU,beq_iff_eq]at h;rcases h with(rfl|rfl)|rfl<;>decide
def zm(q:Bs):Prop:=∀x,q.head? = some x->j9 x=true
theorem il(d:Nat)(h:d<10):(UInt8.ofNat (48+d)).toNat=48+d:=by
 have:∀d,d<10->(UInt8.ofNat (48+d)).toNat=48+d:=by decide
 exact this d h
theorem qh(u:Nat):∀x,x∈Lib.decDigits u->cZ x.toNat=true:=by
 induction u using Sk with
 | ind u ih=>
 intro x hx;rw[Lib.decDigits]at hx;split at hx
 .rename_i h;simp only[Se]at hx;subst hx;rw[il u h];simp only[cZ,RS,decide_eq_true_eq];omega
 .rename_i h;rcases List.mem_append.1 hx with h1|h1
  .exact ih (u/10) (by omega) x h1
  .simp only[Se]at h1;subst h1;rw[il _ (by omega)];simp only[cZ,RS,decide_eq_true_eq];omega
theorem Bw(u:Nat):eS (Lib.decDigits u)=u:=by
 induction u using Sk with
 | ind u ih=>
 rw[Lib.decDigits];split
 .rename_i h;simp only[eS,Si,Sj,il u h];omega
 .rename_i h;have:=ih (u/10) (by omega);unfold eS at this ⊢;rw[List.foldl_append,this];simp only[Si,Sj,il (u%10) (by omega)];omega
theorem rQ(u:Nat):∃c r,Lib.decDigits u=c::r/\(1≤u->c≠48)/\(u<10->r=[]):=by
 induction u using Sk with
 | ind u ih=>
 rw[Lib.decDigits];split
 .rename_i h;refine⟨_,_,rfl,fun h1 e=>?_,fun _=>rfl⟩;have:=congrArg UInt8.toNat e;rw[il u h]at this;have h48:(48:UInt8).toNat=48:=rfl;omega
 .rename_i h;obtain⟨c,r,h1,h2,h3⟩:=ih (u/10) (by omega);exact⟨c,r++_,by rw[h1];rfl,fun _=>h2 (by omega),fun hh=>absurd hh h⟩
theorem lU(l:Bs):cG l=cG (l.take 2):=by
 suffices H:∀(ms:List Bs),(∀m,m∈ms->m.length≤2)->∀b,fR ms b l=fR ms b (l.take 2)from H aS pW 0
 have hp:∀(m:Bs),m.length≤2->m.isPrefixOf l=m.isPrefixOf (l.take 2):=by
  intro m hm
  match m,l with
  | [],_=>simp
  | [a],[]=>rfl
  | [a],b::r=>simp[R9]
  | [a,a'],[]=>rfl
  | [a,a'],[b]=>rfl
  | [a,a'],b::b'::r=>simp[R9]
 intro ms
 induction ms with
 | nil=>intro _ b;rfl
 | cons m ms ih=>
  intro h b;simp only[fR,hp m (h m (by simp))];exact ih (fun x hx=>h x (by simp[hx])) _
theorem kA:∀m,m∈aS->∀b,b∈[[],[32],[9],[10]]->cG ((m++b).take 2)=m.length/\(match m with | []=>false|c::_=>!(fj c.toNat) && !(cZ c.toNat) && !(j9 c)&&(c != 47))=true:=by decide +kernel
theorem rt:∀s,s∈dn->(match s.data.toList with | []=>false|c::r=>fj c.toNat&&((c::r).all inn)&&decide ((c::r).length≤16))=true:=by decide +kernel
theorem vb{s:ByteArray}{l:List ByteArray}(h:inB s l=true):s∈l:=by
 apply Classical.byContradiction;intro hn;rw[lK.2 hn]at h;cases h
theorem pR{c:UInt8}(h:cZ c.toNat=true):fj c.toNat=false:=by
 simp only[fj,cZ,RS,decide_eq_true_eq,Bool.and_eq_false_iff,decide_eq_false_iff_not]at h ⊢;omega
theorem iO{c:UInt8}(h:fj c.toNat=true\/cZ c.toNat=true):j9 c=false/\c≠47:=by
 constructor
 .cases hb:j9 c with
  | false=>rfl
  | true=>
   simp only[j9,RU,beq_iff_eq]at hb;rcases hb with(rfl|rfl)|rfl<;>revert h<;>decide
 .rintro rfl;revert h;decide
theorem dO{c:UInt8}{r:Bs}(h:j9 c=false)(h2:c≠47):bM (c::r)=c::r:=by
 rw[du,if_neg (by rw[h];decide),if_neg (fun h=>h2 h.1)]
theorem nM(s:ByteArray):(⟨s.data.toList.toArray⟩:ByteArray)=s:=Lib.mk_data s
theorem DI{l q:Bs}(hmem:l∈aS)(hq:zm q):l≠[]/\bY (l++q)=.tok 4 0 l.length/\bM (l++q)=l++q:=by
 have hbest:cG (l++q)=l.length:=by
  rw[lU]
  match q,hq with
  | [],_=>exact(kA l hmem [] (by simp)).1
  | x::q,hq=>
   have hx:=hq x rfl
   have hx2:[x]∈([[],[32],[9],[10]]:List Bs):=by
    simp only[j9,RU,beq_iff_eq]at hx;rcases hx with(rfl|rfl)|rfl<;>simp
   have h9:=(kA l hmem [x] hx2).1
   have hne:1≤l.length:=by
    have:=(kA l hmem [] (by simp)).2;cases l with
    | nil=>cases this
    | cons a r=>simp
   have:(l++x::q).take 2=(l++[x]).take 2:=by
    rw[show l++x::q=(l++[x])++q by simp,Sc (by simp;omega)]
   rw[this];exact h9
 have hc:=(kA l hmem [] (by simp)).2;clear hmem;cases l with
 | nil=>cases hc
 | cons c r=>
  simp only[RS,RX,bne_iff_ne,ne_eq]at hc;obtain⟨⟨⟨c1,c2⟩,c3⟩,c4⟩:=hc;rw[RY]at hbest ⊢
  have key:bY (c::(r++q))=if cG (c::(r++q))=0 then .err 5 else .tok 4 0 (cG (c::(r++q))):=by
   simp only[bY,c1,c2,RW,if_false]
  refine⟨by simp,?_,dO c3 c4⟩;rw[key,hbest];rfl
theorem sd{t:Tok}(h:bC t=true){q:Bs}(hq:zm q):t.text.data.toList≠[]/\bY (t.text.data.toList++q)=.tok t.kind t.num t.text.data.toList.length/\bM (t.text.data.toList++q)=t.text.data.toList++q:=by
 have hqi:∀x,q.head? = some x->inn x=false:=fun x hx=>Cc (hq x hx);unfold bC at h;split at h
 .rename_i hk;simp only[RS,decide_eq_true_eq,beq_iff_eq]at h;obtain⟨⟨h0,h1⟩,h2⟩:=h;obtain⟨c,r,h3,h4,h5⟩:=rQ t.num.toNat;have hd:=qh t.num.toNat;have hv:=Bw t.num.toNat;rw[h2,h3]at *;have hin:∀x,x∈c::r->inn x=true:=fun x hx=>by have:=hd x hx;simp[inn,fm,this]
  have htw:=mK hin hqi;have hdc:=hd c (by simp);obtain⟨hb,h47⟩:=iO (.inr hdc);refine⟨by simp,?_,?_⟩
  .rw[RY]at htw ⊢;simp only[bY,htw,pR hdc,hdc,hv,if_true,RW,if_false];rw[if_neg,if_neg (by omega)]
   .rw[hk];congr 1;omega
   .rintro(ha|⟨ha,rfl⟩)
    .have:((c::r).all fun x=>cZ x.toNat)=true:=List.all_eq_true.2 hd;rw[this]at ha;cases ha
    .by_cases h10:t.num.toNat<10
     .rw[h5 h10]at ha;simp at ha
     .exact h4 (by omega) rfl
  .rw[RY];exact dO hb h47
 .split at h
  .rename_i hk;simp only[RS,decide_eq_true_eq]at h;obtain⟨h0,h1⟩:=h;simp only[bt,RS,decide_eq_true_eq,RX]at h1;obtain⟨⟨hw,hz⟩,hkw⟩:=h1;unfold fv at hw;have htx:=nM t.text;rw[Lib.size_eq]at hz;generalize hl:t.text.data.toList=l at *
   match l,hw with
   | c::r,hw=>
    simp only[jf,RS]at hw;have hin:∀x,x∈c::r->inn x=true:=fun x hx=>List.all_eq_true.1 hw.2 x hx;have htw:=mK hin hqi;obtain⟨hb,h47⟩:=iO (.inl hw.1);refine⟨by simp,?_,?_⟩
    .rw[RY]at htw ⊢;simp only[bY,htw,hw.1,if_true];rw[if_neg (by omega),htx,hkw,hk,h0];rfl
    .rw[RY];exact dO hb h47
  .split at h
   .rename_i hk;simp only[RS,decide_eq_true_eq]at h;obtain⟨h0,h1⟩:=h;have hf:=rt _ (vb h1);have htx:=nM t.text;generalize hl:t.text.data.toList=l at *
    match l,hf with
    | c::r,hf=>
     simp only[RS,decide_eq_true_eq]at hf;obtain⟨⟨hlow,hall⟩,hz⟩:=hf;have hin:∀x,x∈c::r->inn x=true:=fun x hx=>List.all_eq_true.1 hall x hx;have htw:=mK hin hqi;obtain⟨hb,h47⟩:=iO (.inl hlow);refine⟨by simp,?_,?_⟩
     .rw[RY]at htw ⊢;simp only[bY,htw,hlow,if_true];rw[if_neg (by omega),htx,h1,hk,h0];rfl
     .rw[RY];exact dO hb h47
   .split at h
    .rename_i hk;simp only[RS,decide_eq_true_eq]at h;obtain⟨h0,h1⟩:=h;have hmem:t.text.data.toList∈aS:=by simpa using h1
     rw[hk,h0];exact DI hmem hq
    .cases h
theorem zA{c:UInt8}{r:Bs}(hc:j9 c=true):bM (c::r)=bM r:=by rw[du,if_pos hc]
theorem ul{N:Int}{l:Bs}:d8 N (bM l)=d8 N l:=by
 rw[bF,bF N l,mi]
def lv:List Tok->Bs
 | []=>[]
 | [t]=>t.text.data.toList
 | t::u::r=>t.text.data.toList++32::lv (u::r)
theorem G5{x:UInt8}(h:inn x=true):x≠10:=by rintro rfl;revert h;decide
theorem DU{t:Tok}(h:bC t=true):t.text.data.toList.count 10=0:=by
 rw[List.count_eq_zero];intro hx;unfold bC at h;split at h
 .simp only[RS,beq_iff_eq]at h;have:=qh t.num.toNat 10 (h.2▸hx)
  revert this;decide
 .split at h
  .simp only[RS]at h;have hw:=h.2;simp only[bt,RS,fv]at hw;generalize t.text.data.toList=l at *
   match l,hw.1.1 with
   | c::r,hw2=>
    simp only[jf,RS]at hw2;exact G5 (List.all_eq_true.1 hw2.2 10 hx) rfl
  .split at h
   .simp only[RS]at h;have hf:=rt _ (vb h.2);generalize t.text.data.toList=l at *
    match l,hf with
    | c::r,hf=>
     simp only[RS]at hf;exact G5 (List.all_eq_true.1 hf.1.2 10 hx) rfl
   .split at h
    .simp only[RS]at h;exact pK _ (by simpa using h.2) 10 hx rfl
    .cases h
def bs(l:Bs):ByteArray:=⟨l.toArray⟩
theorem cq(l:Bs):(bs l).data.toList=l:=by simp[bs]
theorem gi(s:ByteArray):bs s.data.toList=s:=Lib.mk_data s
theorem bO(l:Bs):(bs l).size=l.length:=by rw[Lib.size_eq,cq]
theorem Jy(l:Bs)(n:Nat):(bs l).extract 0 n=bs (l.take n):=by rw[Lib.extract_eq,cq];rfl
theorem Jp(l:Bs)(n:Nat):(bs l).extract n (bs l).size=bs (l.drop n):=by
 rw[Lib.extract_eq,cq,bO];unfold bs;rw[List.take_of_length_le (by simp)]
theorem sa{a b:Bs}:bs a=bs b↔a=b:=⟨fun h=>by rw[<-cq a,<-cq b,h],fun h=>by rw[h]⟩
theorem fx:bs []=⟨#[]⟩:=rfl
theorem lW(a b:Bs):bs a++bs b=bs (a++b):=by
 apply ByteArray.ext;apply Array.ext';simp[bs]
theorem Hn(a b:Bs):decide (bs a=bs b)=decide (a=b):=by rw[decide_eq_decide];exact sa
end Go.Proofs.YthekkgfmagliiaaGreatDoor
