import Derived.Test.YtcbahpllcfbkmaaGreatDoorNames
import Derived.Lib.Bytealg
import Derived.Deep.RegionHeld3
import Derived.BigRegion
import Derived.Laws.Externs
import Derived.Deep.Light
import Derived.Lib.IndexLaws
import Derived.Lib.ItoaNum
set_option linter.unusedVariables false
set_option linter.unusedSimpArgs false
set_option linter.unusedSectionVars false
namespace Go.Proofs.YtcbahpllcfbkmaaGreatDoor
open Go.RowKit
set_option maxRecDepth 100000 in
theorem jJ(s:ByteArray)(c:Int)(w:World):
 Calls Tryz.prog 178 #[.string s,.int .u8 c] w fun e w'=>e=.returned (.int .i64 (Lib.indexByte s.data.toList c.toNat.toUInt8))∧w=w':=by
 have hx:∀w,(callFunc 182 #[.string s,.int .u8 c]).run Tryz.prog w=.ok (.value (.int .i64 (Lib.indexByte s.data.toList c.toNat.toUInt8))) w:=fun w=>by
  rw[run_callFunc_extern Tryz.func182 (by kernel_rfl) (by kernel_rfl) (by kernel_rfl) (e:=Extern.BytealgIndexByte.indexByte) (by kernel_rfl),Lib.run_indexByteString];rfl
 go_enter Tryz.func178,Tryz.ntmps178;go_wp2_with fail;go_ret;exact⟨rfl,rfl⟩
theorem AB{s:ByteArray}{c:UInt8}(h:([c]==s.toList)=true):Lib.indexByte s.data.toList c=0:=by
 rw[ByteArray.toList_eq]at h;rw[←(beq_iff_eq.1 h)];simp[Lib.indexByte]
set_option maxRecDepth 100000 in
theorem xL(s:ByteArray)(c:UInt8)(w:World):
 Calls Tryz.prog 172 #[.string s,.string ⟨#[c]⟩] w fun e w'=>e=.returned (.int .i64 (Lib.indexByte s.data.toList c))∧w=w':=by
 by_cases he:([c]==s.toList)=true
 ·have h0:=AB he;have H0:=Lib.hid h0;clear h0;go_enter Tryz.func172,Tryz.ntmps172;go_wp2_with (go_at_call 178;refine(jJ _ _ _).mono ?_;rintro e w' ⟨rfl,rfl⟩);go_ret;exact⟨ch H0.out.symm,rfl⟩
 ·have he':([c]==s.toList)=false:=by simpa using he
  clear he;go_enter Tryz.func172,Tryz.ntmps172;go_wp2_with (go_at_call 178;refine(jJ _ _ _).mono ?_;rintro e w' ⟨rfl,rfl⟩);go_ret;exact⟨ch (congrArg (Lib.indexByte s.data.toList) (by rfl)),rfl⟩
def df(s:ByteArray)(c:UInt8):ByteArray:=if Lib.indexByte s.data.toList c = -1 then s else s.extract 0 (Lib.indexByte s.data.toList c).toNat
def fW(s:ByteArray)(c:UInt8):ByteArray:=if Lib.indexByte s.data.toList c = -1 then⟨#[]⟩else s.extract ((Lib.indexByte s.data.toList c).toNat+1) s.size
def gM(s:ByteArray)(c:UInt8):Bool:=decide (0≤Lib.indexByte s.data.toList c)
theorem p6{s:ByteArray}{c:UInt8}{o:Nat}(h:Lib.indexByte s.data.toList c=o):o<s.size:=by
 have:=(Lib.indexByte_some h).1;rw[Lib.size_eq];exact(List.getElem?_eq_some_iff.1 this).1
set_option maxRecDepth 100000 in
theorem Bb(s:ByteArray)(c:UInt8)(w:World)(hs:s.size≤9223372036854775807):
 Calls Tryz.prog 160 #[.string s,.string ⟨#[c]⟩] w fun e w'=>e=.returned (.tuple #[.string (df s c),.string (fW s c),.bool (gM s c)])∧Ext w w':=by
 have h1:=Lib.indexByte_ge s.data.toList c;unfold df fW gM;have hc:=xL s c;by_cases hi:Lib.indexByte s.data.toList c = -1
 ·rw[hi]at hc ⊢;have HC:=Lib.hid hc;clear hc;clear h1 hi;go_enter Tryz.func160,Tryz.ntmps160;go_wp2_with (go_at_call 172;refine(HC.out _).mono ?_;rintro e w' ⟨rfl,rfl⟩);go_ret3;exact⟨rfl,Ext.refl _⟩
 ·obtain⟨o,ho⟩:=Int.eq_ofNat_of_zero_le (a:=Lib.indexByte s.data.toList c) (by omega);have hlt:=p6 ho;rw[ho]at hc ⊢;have HC:=Lib.hid hc;clear hc;clear h1 hi;have HO:=Lib.hid ho;clear ho;have e1:IntKind.i64.wrap ((o:Int)+1)=(o:Int)+1:=IntWalk.i64_in _ (by omega);have e2:((o:Int)+1).toNat=o+1:=by omega
  go_enter Tryz.func160,Tryz.ntmps160;go_wp2_with (go_at_call 172;refine(HC.out _).mono ?_;rintro e w' ⟨rfl,rfl⟩);go_quiet (fail);go_wp2_with fail;go_ret3;exact⟨rfl,(Ext.refl w).drewN _⟩
theorem uu(s:ByteArray)(c:UInt8)(w:World)(hs:s.size≤9223372036854775807):
 Calls Tryz.prog 144 #[.string s,.string ⟨#[c]⟩] w fun e w'=>e=.returned (.tuple #[.string (df s c),.string (fW s c),.bool (gM s c)])∧Ext w w':=by
 go_enter Tryz.func144,Tryz.ntmps144;go_wp2_with (go_at_call 160;refine(Bb _ _ _ hs).mono ?_;rintro e w' ⟨rfl,hx⟩);go_ret3;exact⟨rfl,by assumption⟩
theorem uF(s:ByteArray)(c:UInt8):(df s c).size≤s.size:=by
 unfold df;split
 ·exact Nat.le_refl _
 ·simp;omega
theorem um(s:ByteArray)(c:UInt8):(fW s c).size≤s.size:=by
 unfold fW;split
 ·exact Nat.zero_le _
 ·simp
def lD(t:ByteArray):Bool:=if h:t.size=2 then decide ((t[1]'(by omega)).toNat=93)&&decide (48≤(t[0]'(by omega)).toNat)&&decide ((t[0]'(by omega)).toNat<56)else false
def dO(s:ByteArray):Bool:=gM s 91&&aD (df s 91)&&lD (fW s 91)
def qd(eb:Bool)(w:World)(e:Ending)(w':World):Prop:=∃a i,e=.returned (.tuple #[.string a,.int .i64 i,.bool eb])∧Ext w w'
theorem jk{eb b:Bool}{w w':World}{a:ByteArray}{i:Int}(h:b=eb)(hx:Ext w w'):qd eb w (.returned (.tuple #[.string a,.int .i64 i,.bool b])) w':=⟨a,i,by rw[h],hx⟩
theorem lq{t:ByteArray}(h:¬t.size=2):lD t=false:=by unfold lD;rw[dif_neg h]
theorem gC{t:ByteArray}(h:t.size=2):lD t=(decide ((t[1]'(by omega)).toNat=93)&&decide (48≤(t[0]'(by omega)).toNat)&&decide ((t[0]'(by omega)).toNat<56)):=by unfold lD;rw[dif_pos h]
set_option maxRecDepth 100000 in
theorem rI(s:ByteArray)(w:World)(hs:s.size≤9223372036854775807)(hk:lk w):
 Calls Tryz.prog 155 #[.string s] w (qd (dO s) w):=by
 have hA:=uF s 91;have hB:=um s 91;have hcut:=fun w=>uu s 91 w hs;have hq:dO s=(gM s 91&&aD (df s 91)&&lD (fW s 91)):=rfl;generalize dO s=eb at hq ⊢;generalize df s 91=a at *;generalize fW s 91=b at *;generalize gM s 91=ok at *;have HQ:=Lib.hid hq;clear hq;have HK:=Lib.hid hk;clear hk;have HC:=Lib.hid hcut;clear hcut;by_cases hz:b.size=2
 ·have k1:1<b.size:=by omega
  have k0:0<b.size:=by omega
  have HZ:=Lib.hid hz;clear hz;have hz2:((b.size:Int) != 2)=false:=by rw[HZ.out];rfl
  go_enter Tryz.func155,Tryz.ntmps155;go_wp2_with (first|(go_at_call 144;refine(HC.out _).mono ?_;rintro e w' ⟨rfl,hx⟩)|(go_at_call 65;refine(fE _ _ (by omega) (HK.out.ext (by assumption))).mono ?_;rintro e w' ⟨rfl,hy⟩));all_goals (try (go_quiet (fail);go_wp2_with fail))
  all_goals go_ret3
  all_goals (go_light;refine jk ?_ (by first|exact(hx.trans hy).drewN _|exact hx.trans hy|exact hx);rw[HQ.out];first|(simp[*];done)|(rw[gC HZ.out];simp[*];done)|(rw[gC HZ.out,Bool.eq_iff_iff];simp[*];omega))
 ·have hc:=lq hz;have HH:=Lib.hid hc;clear hc;have hz2:((b.size:Int) != 2)=true:=by rw[bne_iff_ne];omega
  clear hz;go_enter Tryz.func155,Tryz.ntmps155;go_wp2_with (first|(go_at_call 144;refine(HC.out _).mono ?_;rintro e w' ⟨rfl,hx⟩)|(go_at_call 65;refine(fE _ _ (by omega) (HK.out.ext (by assumption))).mono ?_;rintro e w' ⟨rfl,hy⟩));all_goals go_ret3
  all_goals (go_light;refine jk ?_ (by first|exact hx.trans hy|exact hx);rw[HQ.out];first|(simp[*];done)|(rw[HH.out];simp;done))
abbrev Bs:=List UInt8
def inn(c:UInt8):Bool:=dK c.toNat
def li(c:UInt8):Bool:=c==32||c==9||c==10
def mC:Nat→Bs→Bs
 | 0,l=>l
 | _+1,[]=>[]
 | k+1,c::r=>if li c=true then mC k r else if c=47∧r.head? = some 47 then mC k ((c::r).dropWhile (· != 10))else c::r
def cV(l:Bs):Bs:=mC l.length l
theorem jn{c:UInt8}{r:Bs}(h:c=47):((c::r).dropWhile (· != 10)).length≤r.length:=by
 subst h;rw[List.dropWhile_cons_of_pos (by decide)];exact List.IsSuffix.length_le (List.dropWhile_suffix _)
theorem Ao:∀(k:Nat) (l:Bs),l.length≤k→mC k l=cV l:=by
 intro k
 induction k using Nat.strongRecOn with
 | ind k ih=>
 intro l hk
 match l with
 | []=>cases k<;>rfl
 | c::r=>
  match k with
  | 0=>simp at hk
  | k+1=>
   have hr:r.length≤k:=by simpa using hk
   unfold cV;simp only[List.length_cons,mC];split
   ·by_cases e:r.length<k
    ·rw[ih k (by omega) r hr];rfl
    ·have:r.length=k:=by omega
     rw[this]
   ·split
    ·rename_i h;have hd:=jn (r:=r) h.1;rw[ih k (by omega) _ (by omega)];by_cases e:r.length<k+1
     ·exact(ih r.length e _ hd).symm
     ·omega
    ·rfl
theorem xC:cV []=[]:=rfl
theorem fO(c:UInt8)(r:Bs):cV (c::r)=if li c=true then cV r else if c=47∧r.head? = some 47 then cV ((c::r).dropWhile (· != 10))else c::r:=by
 show mC (r.length+1) (c::r)=_;rw[mC];split
 ·rfl
 ·split
  ·rename_i h;exact Ao _ _ (jn h.1)
  ·rfl
theorem qx:∀(k:Nat) (l:Bs),l.length≤k→cV l <:+ l:=by
 intro k
 induction k with
 | zero=>intro l h;have:l=[]:=List.eq_nil_of_length_eq_zero (by omega);subst this;exact List.suffix_refl _
 | succ k ih=>
  intro l h
  match l with
  | []=>exact List.suffix_refl _
  | c::r=>
   have hr:r.length≤k:=by simpa using h
   rw[fO];split
   ·exact(ih r hr).trans (List.suffix_cons _ _)
   ·split
    ·rename_i hc;exact(ih _ (Nat.le_trans (jn hc.1) hr)).trans (List.dropWhile_suffix _)
    ·exact List.suffix_refl _
theorem lM(l:Bs):cV l <:+ l:=qx _ l (Nat.le_refl _)
theorem wS(l:Bs):cV (cV l)=cV l:=by
 suffices H:∀(k:Nat) (l:Bs),l.length≤k→cV (cV l)=cV l from H _ l (Nat.le_refl _)
 intro k
 induction k with
 | zero=>intro l h;have:l=[]:=List.eq_nil_of_length_eq_zero (by omega);subst this;rfl
 | succ k ih=>
  intro l h
  match l with
  | []=>rfl
  | c::r=>
   have hr:r.length≤k:=by simpa using h
   rw[fO];split
   ·exact ih r hr
   ·split
    ·rename_i hc;exact ih _ (Nat.le_trans (jn hc.1) hr)
    ·rename_i h1 h2;rw[fO,if_neg h1,if_neg h2]
def dp:List Bs:=[[40],[41],[123],[125],[91],[93],[44],[59],[58],[46,46],[63],[61],[61,61],[33,61],[60],[60,61],[62],[62,61],[60,60],[62,62],[43],[45],[42],[38],[124],[94],[126],[33],[38,38],[124,124],[45,62],[61,62],[58,61],[58,47],[35,35],[64]]
def lK:List Bs→Nat→Bs→Nat
 | [],b,_=>b
 | m::r,b,l=>lK r (if b<m.length∧m.isPrefixOf l=true then m.length else b) l
def fD(l:Bs):Nat:=lK dp 0 l
def Af(l:Bs):Nat:=l.foldl (fun n c=>10*n+(c.toNat-48)) 0
inductive Rd where
 | err (e:Int)
 | tok (kind num:Int) (len:Nat)
def dQ:Bs→Rd
 | []=>.err 5
 | c::r=>
  if d8 c.toNat=true then
   if 16<((c::r).takeWhile inn).length then .err 2
   else .tok (if inB ⟨((c::r).takeWhile inn).toArray⟩ dz=true then 2 else 1) 0 ((c::r).takeWhile inn).length
  else if eR c.toNat=true then
   if(((c::r).takeWhile inn).all fun x=>eR x.toNat)=false∨(1<((c::r).takeWhile inn).length∧c=48)then .err 5
   else if 2147483647<Af ((c::r).takeWhile inn)then .err 3
   else .tok 3 (Af ((c::r).takeWhile inn)) ((c::r).takeWhile inn).length
  else if fD (c::r)=0 then .err 5 else .tok 4 0 (fD (c::r))
structure Tok where
 kind:Int
 num:Int
 text:ByteArray
 line:Int
inductive Lx where
 | ok (l:List Tok)
 | err (line e:Int)
def Lx.cons(t:Tok):Lx→Lx
 | .ok l=>.ok (t::l)
 | .err n e=>.err n e
def tE(N:Int)(r:Bs)(kind num:Int)(len:Nat):Tok:=⟨kind,num,⟨(r.take len).toArray⟩,N-(r.count 10:Nat)⟩
def wG:Nat→Int→Bs→Lx
 | 0,_,_=>.ok []
 | k+1,N,l=>match cV l with
  | []=>.ok []
  | c::r=>match dQ (c::r)with
   | .err e=>.err (N-((c::r).count 10:Nat)) e
   | .tok kind num len=>(wG k N ((c::r).drop len)).cons (tE N (c::r) kind num len)
def jG(N:Int)(l:Bs):Lx:=wG (l.length+1) N l
def C1(l:Bs):Lx:=jG (1+(l.count 10:Nat)) l
theorem pZ:∀(ms:List Bs) (b:Nat) (l:Bs),lK ms b l=b∨∃m,m∈ms∧m.isPrefixOf l=true∧lK ms b l=m.length
 | [],b,l=>.inl rfl
 | m::r,b,l=>by
  simp only[lK];split
  ·rename_i h;rcases pZ r m.length l with h1|⟨m',h1,h2,h3⟩
   ·exact .inr ⟨m,by simp,h.2,h1⟩
   ·exact .inr ⟨m',by simp[h1],h2,h3⟩
  ·rcases pZ r b l with h1|⟨m',h1,h2,h3⟩
   ·exact .inl h1
   ·exact .inr ⟨m',by simp[h1],h2,h3⟩
theorem CU(l:Bs):fD l≤l.length∧fD l≤2:=by
 rcases pZ dp 0 l with h|⟨m,h1,h2,h3⟩
 ·unfold fD;rw[h];omega
 ·have h4:=(List.isPrefixOf_iff_prefix.1 h2).length_le;have h5:m.length≤2:=(by decide:∀m,m∈dp→m.length≤2) m h1;unfold fD;omega
theorem rZ{l:Bs}{kind num:Int}{len:Nat}(h:dQ l=.tok kind num len):1≤len∧len≤l.length:=by
 match l with
 | []=>cases h
 | c::r=>
  have htw:((c::r).takeWhile inn).length≤(c::r).length:=(List.takeWhile_prefix _).length_le;have h1:inn c=true→1≤((c::r).takeWhile inn).length:=fun hi=>by rw[List.takeWhile_cons_of_pos hi];simp
  simp only[dQ]at h;split at h
  ·rename_i hl;split at h
   ·cases h
   ·cases h;exact⟨h1 (by unfold inn dK;simp[hl]),htw⟩
  ·split at h
   ·rename_i hd;split at h
    ·cases h
    ·split at h
     ·cases h
     ·cases h;exact⟨h1 (by unfold inn dK;simp[hd]),htw⟩
   ·split at h
    ·cases h
    ·cases h;have:=CU (c::r);omega
theorem BM:∀(k:Nat) (N:Int) (l:Bs),l.length<k→wG k N l=jG N l:=by
 intro k
 induction k using Nat.strongRecOn with
 | ind k ih=>
 intro N l hk
 match k with
 | 0=>omega
 | k+1=>
  unfold jG;simp only[wG];have hs:=(lM l).length_le;cases hsk:cV l with
  | nil=>rfl
  | cons c r=>
   rw[hsk]at hs;simp only;cases hrd:dQ (c::r)with
   | err e=>rfl
   | tok kind num len=>
    obtain⟨h1,h2⟩:=rZ hrd;have h3:((c::r).drop len).length<l.length:=by rw[List.length_drop];omega
    simp only;rw[ih k (by omega) N _ (by omega)];by_cases e:l.length<k+1
    ·rw[ih l.length (by omega) N _ h3]
    ·omega
theorem gW(N:Int)(l:Bs):jG N l=match cV l with
 | []=>.ok []
 | c::r=>match dQ (c::r)with
  | .err e=>.err (N-((c::r).count 10:Nat)) e
  | .tok kind num len=>(jG N ((c::r).drop len)).cons (tE N (c::r) kind num len):=by
 have:jG N l=wG (l.length+1) N l:=rfl;rw[this,wG];have hs:=(lM l).length_le;cases hsk:cV l with
 | nil=>rfl
 | cons c r=>
  rw[hsk]at hs;simp only;cases hrd:dQ (c::r)with
  | err e=>rfl
  | tok kind num len=>
   obtain⟨h1,h2⟩:=rZ hrd;simp only;rw[BM _ N _ (by rw[List.length_drop];omega)]
theorem j9{p:UInt8→Bool}:∀{t q:Bs},(∀x,x∈t→p x=true)→(∀x,q.head? = some x→p x=false)→(t++q).takeWhile p=t
 | [],[],_,_=>rfl
 | [],x::q,_,h=>by rw[List.nil_append,List.takeWhile_cons_of_neg (by rw[h x rfl];decide)]
 | a::t,q,ht,h=>by
  rw[List.cons_append,List.takeWhile_cons_of_pos (ht a (by simp)),j9 (fun x hx=>ht x (by simp[hx])) h]
theorem qI:∀m,m∈dp→∀x,x∈m→x≠10:=by decide
theorem rF:∀m,m∈dp→m.length≤2:=by decide
end Go.Proofs.YtcbahpllcfbkmaaGreatDoor
