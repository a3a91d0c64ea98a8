import Derived.Test.YtcbahpllcfbkmaaGreatDoorLex2
import Derived.Test.YtcbahpllcfbkmaaGreatDoorA20
import Derived.Lib.ParseIntB
import Derived.Lib.ParseIntBCases
set_option linter.unusedVariables false
set_option linter.unusedSimpArgs false
set_option linter.unusedSectionVars false
namespace Go.Proofs.YtcbahpllcfbkmaaGreatDoor
open Go.RowKit
def dG(t:Tok):Bool:=
 if t.kind=3 then decide (0≤t.num)&&decide (t.num≤2147483647)&&(t.text.data.toList==Lib.decDigits t.num.toNat)
 else if t.kind=1 then decide (t.num=0)&&aD t.text
 else if t.kind=2 then decide (t.num=0)&&inB t.text dz
 else if t.kind=4 then decide (t.num=0)&&dp.contains t.text.data.toList
 else false
theorem vj{x:UInt8}(h:li x=true):inn x=false:=by
 simp only[li,Bool.or_eq_true,beq_iff_eq]at h;rcases h with(rfl|rfl)|rfl<;>decide
def tW(q:Bs):Prop:=∀x,q.head? = some x→li x=true
theorem gB(d:Nat)(h:d<10):(UInt8.ofNat (48+d)).toNat=48+d:=by
 have:∀d,d<10→(UInt8.ofNat (48+d)).toNat=48+d:=by decide
 exact this d h
theorem qp(u:Nat):∀x,x∈Lib.decDigits u→eR x.toNat=true:=by
 induction u using Nat.strongRecOn with
 | ind u ih=>
 intro x hx;rw[Lib.decDigits]at hx;split at hx
 ·rename_i h;simp only[List.mem_singleton]at hx;subst hx;rw[gB u h];simp only[eR,Bool.and_eq_true,decide_eq_true_eq];omega
 ·rename_i h;rcases List.mem_append.1 hx with h1|h1
  ·exact ih (u/10) (by omega) x h1
  ·simp only[List.mem_singleton]at h1;subst h1;rw[gB _ (by omega)];simp only[eR,Bool.and_eq_true,decide_eq_true_eq];omega
theorem uD(u:Nat):Af (Lib.decDigits u)=u:=by
 induction u using Nat.strongRecOn with
 | ind u ih=>
 rw[Lib.decDigits];split
 ·rename_i h;simp only[Af,List.foldl_cons,List.foldl_nil,gB u h];omega
 ·rename_i h;have:=ih (u/10) (by omega);unfold Af at this ⊢;rw[List.foldl_append,this];simp only[List.foldl_cons,List.foldl_nil,gB (u%10) (by omega)];omega
theorem rP(u:Nat):∃c r,Lib.decDigits u=c::r∧(1≤u→c≠48)∧(u<10→r=[]):=by
 induction u using Nat.strongRecOn with
 | ind u ih=>
 rw[Lib.decDigits];split
 ·rename_i h;refine⟨_,_,rfl,fun h1 e=>?_,fun _=>rfl⟩;have:=congrArg UInt8.toNat e;rw[gB u h]at this;have h48:(48:UInt8).toNat=48:=rfl;omega
 ·rename_i h;obtain⟨c,r,h1,h2,h3⟩:=ih (u/10) (by omega);exact⟨c,r++_,by rw[h1];rfl,fun _=>h2 (by omega),fun hh=>absurd hh h⟩
theorem po(l:Bs):fD l=fD (l.take 2):=by
 suffices H:∀(ms:List Bs),(∀m,m∈ms→m.length≤2)→∀b,lK ms b l=lK ms b (l.take 2)from H dp rF 0
 have hp:∀(m:Bs),m.length≤2→m.isPrefixOf l=m.isPrefixOf (l.take 2):=by
  intro m hm
  match m,l with
  | [],_=>simp
  | [a],[]=>rfl
  | [a],b::r=>simp[List.isPrefixOf]
  | [a,a'],[]=>rfl
  | [a,a'],[b]=>rfl
  | [a,a'],b::b'::r=>simp[List.isPrefixOf]
 intro ms
 induction ms with
 | nil=>intro _ b;rfl
 | cons m ms ih=>
  intro h b;simp only[lK,hp m (h m (by simp))];exact ih (fun x hx=>h x (by simp[hx])) _
theorem ic:∀m,m∈dp→∀b,b∈[[],[32],[9],[10]]→fD ((m++b).take 2)=m.length∧(match m with | []=>false|c::_=>!(d8 c.toNat) && !(eR c.toNat) && !(li c)&&(c != 47))=true:=by decide +kernel
theorem mF:∀s,s∈dz→(match s.data.toList with | []=>false|c::r=>d8 c.toNat&&((c::r).all inn)&&decide ((c::r).length≤16))=true:=by decide +kernel
theorem qt{s:ByteArray}{l:List ByteArray}(h:inB s l=true):s∈l:=by
 apply Classical.byContradiction;intro hn;rw[k9.2 hn]at h;cases h
theorem lJ{c:UInt8}(h:eR c.toNat=true):d8 c.toNat=false:=by
 simp only[d8,eR,Bool.and_eq_true,decide_eq_true_eq,Bool.and_eq_false_iff,decide_eq_false_iff_not]at h ⊢;omega
theorem fy{c:UInt8}(h:d8 c.toNat=true∨eR c.toNat=true):li c=false∧c≠47:=by
 constructor
 ·cases hb:li c with
  | false=>rfl
  | true=>
   simp only[li,Bool.or_eq_true,beq_iff_eq]at hb;rcases hb with(rfl|rfl)|rfl<;>revert h<;>decide
 ·rintro rfl;revert h;decide
theorem dl{c:UInt8}{r:Bs}(h:li c=false)(h2:c≠47):cV (c::r)=c::r:=by
 rw[fO,if_neg (by rw[h];decide),if_neg (fun h=>h2 h.1)]
theorem kg(s:ByteArray):(⟨s.data.toList.toArray⟩:ByteArray)=s:=Lib.mk_data s
theorem wT{l q:Bs}(hmem:l∈dp)(hq:tW q):l≠[]∧dQ (l++q)=.tok 4 0 l.length∧cV (l++q)=l++q:=by
 have hbest:fD (l++q)=l.length:=by
  rw[po]
  match q,hq with
  | [],_=>exact(ic l hmem [] (by simp)).1
  | x::q,hq=>
   have hx:=hq x rfl
   have hx2:[x]∈([[],[32],[9],[10]]:List Bs):=by
    simp only[li,Bool.or_eq_true,beq_iff_eq]at hx;rcases hx with(rfl|rfl)|rfl<;>simp
   have h9:=(ic l hmem [x] hx2).1
   have hne:1≤l.length:=by
    have:=(ic l hmem [] (by simp)).2;cases l with
    | nil=>cases this
    | cons a r=>simp
   have:(l++x::q).take 2=(l++[x]).take 2:=by
    rw[show l++x::q=(l++[x])++q by simp,List.take_append_of_le_length (by simp;omega)]
   rw[this];exact h9
 have hc:=(ic l hmem [] (by simp)).2;clear hmem;cases l with
 | nil=>cases hc
 | cons c r=>
  simp only[Bool.and_eq_true,Bool.not_eq_true',bne_iff_ne,ne_eq]at hc;obtain⟨⟨⟨c1,c2⟩,c3⟩,c4⟩:=hc;rw[List.cons_append]at hbest ⊢
  have key:dQ (c::(r++q))=if fD (c::(r++q))=0 then .err 5 else .tok 4 0 (fD (c::(r++q))):=by
   simp only[dQ,c1,c2,Bool.false_eq_true,if_false]
  refine⟨by simp,?_,dl c3 c4⟩;rw[key,hbest];rfl
theorem tx{t:Tok}(h:dG t=true){q:Bs}(hq:tW q):t.text.data.toList≠[]∧dQ (t.text.data.toList++q)=.tok t.kind t.num t.text.data.toList.length∧cV (t.text.data.toList++q)=t.text.data.toList++q:=by
 have hqi:∀x,q.head? = some x→inn x=false:=fun x hx=>vj (hq x hx);unfold dG at h;split at h
 ·rename_i hk;simp only[Bool.and_eq_true,decide_eq_true_eq,beq_iff_eq]at h;obtain⟨⟨h0,h1⟩,h2⟩:=h;obtain⟨c,r,h3,h4,h5⟩:=rP t.num.toNat;have hd:=qp t.num.toNat;have hv:=uD t.num.toNat;rw[h2,h3]at *;have hin:∀x,x∈c::r→inn x=true:=fun x hx=>by have:=hd x hx;simp[inn,dK,this]
  have htw:=j9 hin hqi;have hdc:=hd c (by simp);obtain⟨hb,h47⟩:=fy (.inr hdc);refine⟨by simp,?_,?_⟩
  ·rw[List.cons_append]at htw ⊢;simp only[dQ,htw,lJ hdc,hdc,hv,if_true,Bool.false_eq_true,if_false];rw[if_neg,if_neg (by omega)]
   ·rw[hk];congr 1;omega
   ·rintro(ha|⟨ha,rfl⟩)
    ·have:((c::r).all fun x=>eR x.toNat)=true:=List.all_eq_true.2 hd;rw[this]at ha;cases ha
    ·by_cases h10:t.num.toNat<10
     ·rw[h5 h10]at ha;simp at ha
     ·exact h4 (by omega) rfl
  ·rw[List.cons_append];exact dl hb h47
 ·split at h
  ·rename_i hk;simp only[Bool.and_eq_true,decide_eq_true_eq]at h;obtain⟨h0,h1⟩:=h;simp only[aD,Bool.and_eq_true,decide_eq_true_eq,Bool.not_eq_true']at h1;obtain⟨⟨hw,hz⟩,hkw⟩:=h1;unfold dY at hw;have htx:=kg t.text;rw[Lib.size_eq]at hz;generalize hl:t.text.data.toList=l at *
   match l,hw with
   | c::r,hw=>
    simp only[gJ,Bool.and_eq_true]at hw;have hin:∀x,x∈c::r→inn x=true:=fun x hx=>List.all_eq_true.1 hw.2 x hx;have htw:=j9 hin hqi;obtain⟨hb,h47⟩:=fy (.inl hw.1);refine⟨by simp,?_,?_⟩
    ·rw[List.cons_append]at htw ⊢;simp only[dQ,htw,hw.1,if_true];rw[if_neg (by omega),htx,hkw,hk,h0];rfl
    ·rw[List.cons_append];exact dl hb h47
  ·split at h
   ·rename_i hk;simp only[Bool.and_eq_true,decide_eq_true_eq]at h;obtain⟨h0,h1⟩:=h;have hf:=mF _ (qt h1);have htx:=kg t.text;generalize hl:t.text.data.toList=l at *
    match l,hf with
    | c::r,hf=>
     simp only[Bool.and_eq_true,decide_eq_true_eq]at hf;obtain⟨⟨hlow,hall⟩,hz⟩:=hf;have hin:∀x,x∈c::r→inn x=true:=fun x hx=>List.all_eq_true.1 hall x hx;have htw:=j9 hin hqi;obtain⟨hb,h47⟩:=fy (.inl hlow);refine⟨by simp,?_,?_⟩
     ·rw[List.cons_append]at htw ⊢;simp only[dQ,htw,hlow,if_true];rw[if_neg (by omega),htx,h1,hk,h0];rfl
     ·rw[List.cons_append];exact dl hb h47
   ·split at h
    ·rename_i hk;simp only[Bool.and_eq_true,decide_eq_true_eq]at h;obtain⟨h0,h1⟩:=h;have hmem:t.text.data.toList∈dp:=by simpa using h1
     rw[hk,h0];exact wT hmem hq
    ·cases h
theorem tT{c:UInt8}{r:Bs}(hc:li c=true):cV (c::r)=cV r:=by rw[fO,if_pos hc]
theorem pj{N:Int}{l:Bs}:jG N (cV l)=jG N l:=by
 rw[gW,gW N l,wS]
theorem A0{x:UInt8}(h:inn x=true):x≠10:=by rintro rfl;revert h;decide
theorem wH{t:Tok}(h:dG t=true):t.text.data.toList.count 10=0:=by
 rw[List.count_eq_zero];intro hx;unfold dG at h;split at h
 ·simp only[Bool.and_eq_true,beq_iff_eq]at h;have:=qp t.num.toNat 10 (h.2▸hx)
  revert this;decide
 ·split at h
  ·simp only[Bool.and_eq_true]at h;have hw:=h.2;simp only[aD,Bool.and_eq_true,dY]at hw;generalize t.text.data.toList=l at *
   match l,hw.1.1 with
   | c::r,hw2=>
    simp only[gJ,Bool.and_eq_true]at hw2;exact A0 (List.all_eq_true.1 hw2.2 10 hx) rfl
  ·split at h
   ·simp only[Bool.and_eq_true]at h;have hf:=mF _ (qt h.2);generalize t.text.data.toList=l at *
    match l,hf with
    | c::r,hf=>
     simp only[Bool.and_eq_true]at hf;exact A0 (List.all_eq_true.1 hf.1.2 10 hx) rfl
   ·split at h
    ·simp only[Bool.and_eq_true]at h;exact qI _ (by simpa using h.2) 10 hx rfl
    ·cases h
def bs(l:Bs):ByteArray:=⟨l.toArray⟩
theorem bH(l:Bs):(bs l).data.toList=l:=by simp[bs]
theorem eU(s:ByteArray):bs s.data.toList=s:=Lib.mk_data s
theorem dE(l:Bs):(bs l).size=l.length:=by rw[Lib.size_eq,bH]
theorem Ch(l:Bs)(n:Nat):(bs l).extract 0 n=bs (l.take n):=by rw[Lib.extract_eq,bH];rfl
theorem BF(l:Bs)(n:Nat):(bs l).extract n (bs l).size=bs (l.drop n):=by
 rw[Lib.extract_eq,bH,dE];unfold bs;rw[List.take_of_length_le (by simp)]
theorem sf{a b:Bs}:bs a=bs b↔a=b:=⟨fun h=>by rw[←bH a,←bH b,h],fun h=>by rw[h]⟩
theorem wz(a b:Bs):bs a++bs b=bs (a++b):=by
 apply ByteArray.ext;apply Array.ext';simp[bs]
theorem fG(s:ByteArray)(k:Nat)(h:k<s.size):s.data.toList[k]? = some (s[k]'h):=by
 have h1:s.data.toList.length=s.size:=Lib.size_eq s;rw[List.getElem?_eq_getElem (by omega)];rfl
end Go.Proofs.YtcbahpllcfbkmaaGreatDoor
