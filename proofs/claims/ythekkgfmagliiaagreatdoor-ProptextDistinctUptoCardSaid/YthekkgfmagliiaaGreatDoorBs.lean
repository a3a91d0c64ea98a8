import Derived.Test.YthekkgfmagliiaaGreatDoorNames
import Derived.Lib.ItoaNum
import Derived.Test.YthekkgfmagliiaaGreatDoorA20
set_option linter.unusedVariables false
set_option linter.unusedSimpArgs false
set_option linter.unusedSectionVars false
namespace Go.Proofs.YthekkgfmagliiaaGreatDoor
open Go.RowKit
abbrev Bs:=List UInt8
def inn(c:UInt8):Bool:=eu c.toNat
def kj(c:UInt8):Bool:=c==32||c==9||c==10
def oY:Nat→Bs→Bs
 | 0,l=>l
 | _+1,[]=>[]
 | k+1,c::r=>if kj c=true then oY k r else if c=47∧r.head? = some 47 then oY k ((c::r).dropWhile (· != 10))else c::r
def dk(l:Bs):Bs:=oY l.length l
theorem jL{c:UInt8}{r:Bs}(h:c=47):((c::r).dropWhile (· != 10)).length≤r.length:=by
 subst h;rw[List.dropWhile_cons_of_pos (by decide)];exact List.IsSuffix.length_le (List.dropWhile_suffix _)
theorem D7:∀(k:Nat) (l:Bs),l.length≤k→oY k l=dk l:=by
 intro k
 induction k using Nat.strongRecOn with
 | ind k ih=>
 intro l hk
 match l with
 | []=>cases k<;>rfl
 | c::r=>
  match k with
  | 0=>simp at hk
  | k+1=>
   have hr:r.length≤k:=by simpa using hk
   unfold dk;simp only[List.length_cons,oY];split
   ·by_cases e:r.length<k
    ·rw[ih k (by omega) r hr];rfl
    ·have:r.length=k:=by omega
     rw[this]
   ·split
    ·rename_i h;have hd:=jL (r:=r) h.1;rw[ih k (by omega) _ (by omega)];by_cases e:r.length<k+1
     ·exact(ih r.length e _ hd).symm
     ·omega
    ·rfl
theorem zf:dk []=[]:=rfl
theorem gE(c:UInt8)(r:Bs):dk (c::r)=if kj c=true then dk r else if c=47∧r.head? = some 47 then dk ((c::r).dropWhile (· != 10))else c::r:=by
 show oY (r.length+1) (c::r)=_;rw[oY];split
 ·rfl
 ·split
  ·rename_i h;exact D7 _ _ (jL h.1)
  ·rfl
theorem sU:∀(k:Nat) (l:Bs),l.length≤k→dk l <:+ l:=by
 intro k
 induction k with
 | zero=>intro l h;have:l=[]:=List.eq_nil_of_length_eq_zero (by omega);subst this;exact List.suffix_refl _
 | succ k ih=>
  intro l h
  match l with
  | []=>exact List.suffix_refl _
  | c::r=>
   have hr:r.length≤k:=by simpa using h
   rw[gE];split
   ·exact(ih r hr).trans (List.suffix_cons _ _)
   ·split
    ·rename_i hc;exact(ih _ (Nat.le_trans (jL hc.1) hr)).trans (List.dropWhile_suffix _)
    ·exact List.suffix_refl _
theorem mM(l:Bs):dk l <:+ l:=sU _ l (Nat.le_refl _)
theorem zw(l:Bs):dk (dk l)=dk l:=by
 suffices H:∀(k:Nat) (l:Bs),l.length≤k→dk (dk l)=dk l from H _ l (Nat.le_refl _)
 intro k
 induction k with
 | zero=>intro l h;have:l=[]:=List.eq_nil_of_length_eq_zero (by omega);subst this;rfl
 | succ k ih=>
  intro l h
  match l with
  | []=>rfl
  | c::r=>
   have hr:r.length≤k:=by simpa using h
   rw[gE];split
   ·exact ih r hr
   ·split
    ·rename_i hc;exact ih _ (Nat.le_trans (jL hc.1) hr)
    ·rename_i h1 h2;rw[gE,if_neg h1,if_neg h2]
def cN:List Bs:=[[40],[41],[123],[125],[91],[93],[44],[59],[58],[46,46],[63],[61],[61,61],[33,61],[60],[60,61],[62],[62,61],[60,60],[62,62],[43],[45],[42],[38],[124],[94],[126],[33],[38,38],[124,124],[45,62],[61,62],[58,61],[58,47],[35,35],[64]]
def m8:List Bs→Nat→Bs→Nat
 | [],b,_=>b
 | m::r,b,l=>m8 r (if b<m.length∧m.isPrefixOf l=true then m.length else b) l
def eH(l:Bs):Nat:=m8 cN 0 l
def B2(l:Bs):Nat:=l.foldl (fun n c=>10*n+(c.toNat-48)) 0
inductive Rd where
 | err (e:Int)
 | tok (kind num:Int) (len:Nat)
def dA:Bs→Rd
 | []=>.err 5
 | c::r=>
  if eo c.toNat=true then
   if 16<((c::r).takeWhile inn).length then .err 2
   else .tok (if inB ⟨((c::r).takeWhile inn).toArray⟩ dx=true then 2 else 1) 0 ((c::r).takeWhile inn).length
  else if d6 c.toNat=true then
   if(((c::r).takeWhile inn).all fun x=>d6 x.toNat)=false∨(1<((c::r).takeWhile inn).length∧c=48)then .err 5
   else if 2147483647<B2 ((c::r).takeWhile inn)then .err 3
   else .tok 3 (B2 ((c::r).takeWhile inn)) ((c::r).takeWhile inn).length
  else if eH (c::r)=0 then .err 5 else .tok 4 0 (eH (c::r))
structure Tok where
 kind:Int
 num:Int
 text:ByteArray
 line:Int
inductive Lx where
 | ok (l:List Tok)
 | err (line e:Int)
def Lx.cons(t:Tok):Lx→Lx
 | .ok l=>.ok (t::l)
 | .err n e=>.err n e
def vo(N:Int)(r:Bs)(kind num:Int)(len:Nat):Tok:=⟨kind,num,⟨(r.take len).toArray⟩,N-(r.count 10:Nat)⟩
def zG:Nat→Int→Bs→Lx
 | 0,_,_=>.ok []
 | k+1,N,l=>match dk l with
  | []=>.ok []
  | c::r=>match dA (c::r)with
   | .err e=>.err (N-((c::r).count 10:Nat)) e
   | .tok kind num len=>(zG k N ((c::r).drop len)).cons (vo N (c::r) kind num len)
def ku(N:Int)(l:Bs):Lx:=zG (l.length+1) N l
def qI(l:Bs):Lx:=ku (1+(l.count 10:Nat)) l
theorem sG:∀(ms:List Bs) (b:Nat) (l:Bs),m8 ms b l=b∨∃m,m∈ms∧m.isPrefixOf l=true∧m8 ms b l=m.length
 | [],b,l=>.inl rfl
 | m::r,b,l=>by
  simp only[m8];split
  ·rename_i h;rcases sG r m.length l with h1|⟨m',h1,h2,h3⟩
   ·exact .inr ⟨m,by simp,h.2,h1⟩
   ·exact .inr ⟨m',by simp[h1],h2,h3⟩
  ·rcases sG r b l with h1|⟨m',h1,h2,h3⟩
   ·exact .inl h1
   ·exact .inr ⟨m',by simp[h1],h2,h3⟩
theorem Ge(l:Bs):eH l≤l.length∧eH l≤2:=by
 rcases sG cN 0 l with h|⟨m,h1,h2,h3⟩
 ·unfold eH;rw[h];omega
 ·have h4:=(List.isPrefixOf_iff_prefix.1 h2).length_le;have h5:m.length≤2:=(by decide:∀m,m∈cN→m.length≤2) m h1;unfold eH;omega
theorem tK{l:Bs}{kind num:Int}{len:Nat}(h:dA l=.tok kind num len):1≤len∧len≤l.length:=by
 match l with
 | []=>cases h
 | c::r=>
  have htw:((c::r).takeWhile inn).length≤(c::r).length:=(List.takeWhile_prefix _).length_le;have h1:inn c=true→1≤((c::r).takeWhile inn).length:=fun hi=>by rw[List.takeWhile_cons_of_pos hi];simp
  simp only[dA]at h;split at h
  ·rename_i hl;split at h
   ·cases h
   ·cases h;exact⟨h1 (by unfold inn eu;simp[hl]),htw⟩
  ·split at h
   ·rename_i hd;split at h
    ·cases h
    ·split at h
     ·cases h
     ·cases h;exact⟨h1 (by unfold inn eu;simp[hd]),htw⟩
   ·split at h
    ·cases h
    ·cases h;have:=Ge (c::r);omega
theorem Gc:∀(k:Nat) (N:Int) (l:Bs),l.length<k→zG k N l=ku N l:=by
 intro k
 induction k using Nat.strongRecOn with
 | ind k ih=>
 intro N l hk
 match k with
 | 0=>omega
 | k+1=>
  unfold ku;simp only[zG];have hs:=(mM l).length_le;cases hsk:dk l with
  | nil=>rfl
  | cons c r=>
   rw[hsk]at hs;simp only;cases hrd:dA (c::r)with
   | err e=>rfl
   | tok kind num len=>
    obtain⟨h1,h2⟩:=tK hrd;have h3:((c::r).drop len).length<l.length:=by rw[List.length_drop];omega
    simp only;rw[ih k (by omega) N _ (by omega)];by_cases e:l.length<k+1
    ·rw[ih l.length (by omega) N _ h3]
    ·omega
theorem iX(N:Int)(l:Bs):ku N l=match dk l with
 | []=>.ok []
 | c::r=>match dA (c::r)with
  | .err e=>.err (N-((c::r).count 10:Nat)) e
  | .tok kind num len=>(ku N ((c::r).drop len)).cons (vo N (c::r) kind num len):=by
 have:ku N l=zG (l.length+1) N l:=rfl;rw[this,zG];have hs:=(mM l).length_le;cases hsk:dk l with
 | nil=>rfl
 | cons c r=>
  rw[hsk]at hs;simp only;cases hrd:dA (c::r)with
  | err e=>rfl
  | tok kind num len=>
   obtain⟨h1,h2⟩:=tK hrd;simp only;rw[Gc _ N _ (by rw[List.length_drop];omega)]
theorem kU{p:UInt8→Bool}:∀{t q:Bs},(∀x,x∈t→p x=true)→(∀x,q.head? = some x→p x=false)→(t++q).takeWhile p=t
 | [],[],_,_=>rfl
 | [],x::q,_,h=>by rw[List.nil_append,List.takeWhile_cons_of_neg (by rw[h x rfl];decide)]
 | a::t,q,ht,h=>by
  rw[List.cons_append,List.takeWhile_cons_of_pos (ht a (by simp)),kU (fun x hx=>ht x (by simp[hx])) h]
theorem tB:∀m,m∈cN→∀x,x∈m→x≠10:=by decide
theorem ut:∀m,m∈cN→m.length≤2:=by decide
def cK(t:Tok):Bool:=
 if t.kind=3 then decide (0≤t.num)&&decide (t.num≤2147483647)&&(t.text.data.toList==Lib.decDigits t.num.toNat)
 else if t.kind=1 then decide (t.num=0)&&a8 t.text
 else if t.kind=2 then decide (t.num=0)&&inB t.text dx
 else if t.kind=4 then decide (t.num=0)&&cN.contains t.text.data.toList
 else false
theorem yQ{x:UInt8}(h:kj x=true):inn x=false:=by
 simp only[kj,Bool.or_eq_true,beq_iff_eq]at h;rcases h with(rfl|rfl)|rfl<;>decide
def vD(q:Bs):Prop:=∀x,q.head? = some x→kj x=true
theorem iD(d:Nat)(h:d<10):(UInt8.ofNat (48+d)).toNat=48+d:=by
 have:∀d,d<10→(UInt8.ofNat (48+d)).toNat=48+d:=by decide
 exact this d h
theorem nB(u:Nat):∀x,x∈Lib.decDigits u→d6 x.toNat=true:=by
 induction u using Nat.strongRecOn with
 | ind u ih=>
 intro x hx;rw[Lib.decDigits]at hx;split at hx
 ·rename_i h;simp only[List.mem_singleton]at hx;subst hx;rw[iD u h];simp only[d6,Bool.and_eq_true,decide_eq_true_eq];omega
 ·rename_i h;rcases List.mem_append.1 hx with h1|h1
  ·exact ih (u/10) (by omega) x h1
  ·simp only[List.mem_singleton]at h1;subst h1;rw[iD _ (by omega)];simp only[d6,Bool.and_eq_true,decide_eq_true_eq];omega
theorem yk(u:Nat):B2 (Lib.decDigits u)=u:=by
 induction u using Nat.strongRecOn with
 | ind u ih=>
 rw[Lib.decDigits];split
 ·rename_i h;simp only[B2,List.foldl_cons,List.foldl_nil,iD u h];omega
 ·rename_i h;have:=ih (u/10) (by omega);unfold B2 at this ⊢;rw[List.foldl_append,this];simp only[List.foldl_cons,List.foldl_nil,iD (u%10) (by omega)];omega
theorem pK(u:Nat):∃c r,Lib.decDigits u=c::r∧(1≤u→c≠48)∧(u<10→r=[]):=by
 induction u using Nat.strongRecOn with
 | ind u ih=>
 rw[Lib.decDigits];split
 ·rename_i h;refine⟨_,_,rfl,fun h1 e=>?_,fun _=>rfl⟩;have:=congrArg UInt8.toNat e;rw[iD u h]at this;have h48:(48:UInt8).toNat=48:=rfl;omega
 ·rename_i h;obtain⟨c,r,h1,h2,h3⟩:=ih (u/10) (by omega);exact⟨c,r++_,by rw[h1];rfl,fun _=>h2 (by omega),fun hh=>absurd hh h⟩
theorem j7(l:Bs):eH l=eH (l.take 2):=by
 suffices H:∀(ms:List Bs),(∀m,m∈ms→m.length≤2)→∀b,m8 ms b l=m8 ms b (l.take 2)from H cN ut 0
 have hp:∀(m:Bs),m.length≤2→m.isPrefixOf l=m.isPrefixOf (l.take 2):=by
  intro m hm
  match m,l with
  | [],_=>simp
  | [a],[]=>rfl
  | [a],b::r=>simp[List.isPrefixOf]
  | [a,a'],[]=>rfl
  | [a,a'],[b]=>rfl
  | [a,a'],b::b'::r=>simp[List.isPrefixOf]
 intro ms
 induction ms with
 | nil=>intro _ b;rfl
 | cons m ms ih=>
  intro h b;simp only[m8,hp m (h m (by simp))];exact ih (fun x hx=>h x (by simp[hx])) _
theorem iV:∀m,m∈cN→∀b,b∈[[],[32],[9],[10]]→eH ((m++b).take 2)=m.length∧(match m with | []=>false|c::_=>!(eo c.toNat) && !(d6 c.toNat) && !(kj c)&&(c != 47))=true:=by decide +kernel
theorem pj:∀s,s∈dx→(match s.data.toList with | []=>false|c::r=>eo c.toNat&&((c::r).all inn)&&decide ((c::r).length≤16))=true:=by decide +kernel
theorem rX{s:ByteArray}{l:List ByteArray}(h:inB s l=true):s∈l:=by
 apply Classical.byContradiction;intro hn;rw[jY.2 hn]at h;cases h
theorem mX{c:UInt8}(h:d6 c.toNat=true):eo c.toNat=false:=by
 simp only[eo,d6,Bool.and_eq_true,decide_eq_true_eq,Bool.and_eq_false_iff,decide_eq_false_iff_not]at h ⊢;omega
theorem gk{c:UInt8}(h:eo c.toNat=true∨d6 c.toNat=true):kj c=false∧c≠47:=by
 constructor
 ·cases hb:kj c with
  | false=>rfl
  | true=>
   simp only[kj,Bool.or_eq_true,beq_iff_eq]at hb;rcases hb with(rfl|rfl)|rfl<;>revert h<;>decide
 ·rintro rfl;revert h;decide
theorem cU{c:UInt8}{r:Bs}(h:kj c=false)(h2:c≠47):dk (c::r)=c::r:=by
 rw[gE,if_neg (by rw[h];decide),if_neg (fun h=>h2 h.1)]
theorem lk(s:ByteArray):(⟨s.data.toList.toArray⟩:ByteArray)=s:=Lib.mk_data s
theorem yH{l q:Bs}(hmem:l∈cN)(hq:vD q):l≠[]∧dA (l++q)=.tok 4 0 l.length∧dk (l++q)=l++q:=by
 have hbest:eH (l++q)=l.length:=by
  rw[j7]
  match q,hq with
  | [],_=>exact(iV l hmem [] (by simp)).1
  | x::q,hq=>
   have hx:=hq x rfl
   have hx2:[x]∈([[],[32],[9],[10]]:List Bs):=by
    simp only[kj,Bool.or_eq_true,beq_iff_eq]at hx;rcases hx with(rfl|rfl)|rfl<;>simp
   have h9:=(iV l hmem [x] hx2).1
   have hne:1≤l.length:=by
    have:=(iV l hmem [] (by simp)).2;cases l with
    | nil=>cases this
    | cons a r=>simp
   have:(l++x::q).take 2=(l++[x]).take 2:=by
    rw[show l++x::q=(l++[x])++q by simp,List.take_append_of_le_length (by simp;omega)]
   rw[this];exact h9
 have hc:=(iV l hmem [] (by simp)).2;clear hmem;cases l with
 | nil=>cases hc
 | cons c r=>
  simp only[Bool.and_eq_true,Bool.not_eq_true',bne_iff_ne,ne_eq]at hc;obtain⟨⟨⟨c1,c2⟩,c3⟩,c4⟩:=hc;rw[List.cons_append]at hbest ⊢
  have key:dA (c::(r++q))=if eH (c::(r++q))=0 then .err 5 else .tok 4 0 (eH (c::(r++q))):=by
   simp only[dA,c1,c2,Bool.false_eq_true,if_false]
  refine⟨by simp,?_,cU c3 c4⟩;rw[key,hbest];rfl
theorem od{t:Tok}(h:cK t=true){q:Bs}(hq:vD q):t.text.data.toList≠[]∧dA (t.text.data.toList++q)=.tok t.kind t.num t.text.data.toList.length∧dk (t.text.data.toList++q)=t.text.data.toList++q:=by
 have hqi:∀x,q.head? = some x→inn x=false:=fun x hx=>yQ (hq x hx);unfold cK at h;split at h
 ·rename_i hk;simp only[Bool.and_eq_true,decide_eq_true_eq,beq_iff_eq]at h;obtain⟨⟨h0,h1⟩,h2⟩:=h;obtain⟨c,r,h3,h4,h5⟩:=pK t.num.toNat;have hd:=nB t.num.toNat;have hv:=yk t.num.toNat;rw[h2,h3]at *;have hin:∀x,x∈c::r→inn x=true:=fun x hx=>by have:=hd x hx;simp[inn,eu,this]
  have htw:=kU hin hqi;have hdc:=hd c (by simp);obtain⟨hb,h47⟩:=gk (.inr hdc);refine⟨by simp,?_,?_⟩
  ·rw[List.cons_append]at htw ⊢;simp only[dA,htw,mX hdc,hdc,hv,if_true,Bool.false_eq_true,if_false];rw[if_neg,if_neg (by omega)]
   ·rw[hk];congr 1;omega
   ·rintro(ha|⟨ha,rfl⟩)
    ·have:((c::r).all fun x=>d6 x.toNat)=true:=List.all_eq_true.2 hd;rw[this]at ha;cases ha
    ·by_cases h10:t.num.toNat<10
     ·rw[h5 h10]at ha;simp at ha
     ·exact h4 (by omega) rfl
  ·rw[List.cons_append];exact cU hb h47
 ·split at h
  ·rename_i hk;simp only[Bool.and_eq_true,decide_eq_true_eq]at h;obtain⟨h0,h1⟩:=h;simp only[a8,Bool.and_eq_true,decide_eq_true_eq,Bool.not_eq_true']at h1;obtain⟨⟨hw,hz⟩,hkw⟩:=h1;unfold eq at hw;have htx:=lk t.text;rw[Lib.size_eq]at hz;generalize hl:t.text.data.toList=l at *
   match l,hw with
   | c::r,hw=>
    simp only[iq,Bool.and_eq_true]at hw;have hin:∀x,x∈c::r→inn x=true:=fun x hx=>List.all_eq_true.1 hw.2 x hx;have htw:=kU hin hqi;obtain⟨hb,h47⟩:=gk (.inl hw.1);refine⟨by simp,?_,?_⟩
    ·rw[List.cons_append]at htw ⊢;simp only[dA,htw,hw.1,if_true];rw[if_neg (by omega),htx,hkw,hk,h0];rfl
    ·rw[List.cons_append];exact cU hb h47
  ·split at h
   ·rename_i hk;simp only[Bool.and_eq_true,decide_eq_true_eq]at h;obtain⟨h0,h1⟩:=h;have hf:=pj _ (rX h1);have htx:=lk t.text;generalize hl:t.text.data.toList=l at *
    match l,hf with
    | c::r,hf=>
     simp only[Bool.and_eq_true,decide_eq_true_eq]at hf;obtain⟨⟨hlow,hall⟩,hz⟩:=hf;have hin:∀x,x∈c::r→inn x=true:=fun x hx=>List.all_eq_true.1 hall x hx;have htw:=kU hin hqi;obtain⟨hb,h47⟩:=gk (.inl hlow);refine⟨by simp,?_,?_⟩
     ·rw[List.cons_append]at htw ⊢;simp only[dA,htw,hlow,if_true];rw[if_neg (by omega),htx,h1,hk,h0];rfl
     ·rw[List.cons_append];exact cU hb h47
   ·split at h
    ·rename_i hk;simp only[Bool.and_eq_true,decide_eq_true_eq]at h;obtain⟨h0,h1⟩:=h;have hmem:t.text.data.toList∈cN:=by simpa using h1
     rw[hk,h0];exact yH hmem hq
    ·cases h
theorem wi{c:UInt8}{r:Bs}(hc:kj c=true):dk (c::r)=dk r:=by rw[gE,if_pos hc]
theorem qK{N:Int}{l:Bs}:ku N (dk l)=ku N l:=by
 rw[iX,iX N l,zw]
theorem BV{x:UInt8}(h:inn x=true):x≠10:=by rintro rfl;revert h;decide
theorem AZ{t:Tok}(h:cK t=true):t.text.data.toList.count 10=0:=by
 rw[List.count_eq_zero];intro hx;unfold cK at h;split at h
 ·simp only[Bool.and_eq_true,beq_iff_eq]at h;have:=nB t.num.toNat 10 (h.2▸hx)
  revert this;decide
 ·split at h
  ·simp only[Bool.and_eq_true]at h;have hw:=h.2;simp only[a8,Bool.and_eq_true,eq]at hw;generalize t.text.data.toList=l at *
   match l,hw.1.1 with
   | c::r,hw2=>
    simp only[iq,Bool.and_eq_true]at hw2;exact BV (List.all_eq_true.1 hw2.2 10 hx) rfl
  ·split at h
   ·simp only[Bool.and_eq_true]at h;have hf:=pj _ (rX h.2);generalize t.text.data.toList=l at *
    match l,hf with
    | c::r,hf=>
     simp only[Bool.and_eq_true]at hf;exact BV (List.all_eq_true.1 hf.1.2 10 hx) rfl
   ·split at h
    ·simp only[Bool.and_eq_true]at h;exact tB _ (by simpa using h.2) 10 hx rfl
    ·cases h
def bs(l:Bs):ByteArray:=⟨l.toArray⟩
theorem cl(l:Bs):(bs l).data.toList=l:=by simp[bs]
theorem ef(s:ByteArray):bs s.data.toList=s:=Lib.mk_data s
theorem d8(l:Bs):(bs l).size=l.length:=by rw[Lib.size_eq,cl]
theorem F7(l:Bs)(n:Nat):(bs l).extract 0 n=bs (l.take n):=by rw[Lib.extract_eq,cl];rfl
theorem FG(l:Bs)(n:Nat):(bs l).extract n (bs l).size=bs (l.drop n):=by
 rw[Lib.extract_eq,cl,d8];unfold bs;rw[List.take_of_length_le (by simp)]
theorem rN{a b:Bs}:bs a=bs b↔a=b:=⟨fun h=>by rw[←cl a,←cl b,h],fun h=>by rw[h]⟩
theorem Bd(a b:Bs):bs a++bs b=bs (a++b):=by
 apply ByteArray.ext;apply Array.ext';simp[bs]
end Go.Proofs.YthekkgfmagliiaaGreatDoor
