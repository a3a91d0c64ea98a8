import Derived.Lib.Bytealg
import Derived.Deep.RegionHeld3
import Derived.BigRegion
import Derived.Laws.Externs
import Derived.Deep.Light
import Derived.Lib.IndexLaws
import Derived.Lib.ItoaNum
import Derived.Lib.ParseIntB
import Derived.Lib.ParseIntBCases
import Derived.Test.YtnhphlmblenapaaGreatDoorNames
import Derived.Test.YtnhphlmblenapaaGreatDoorA20
set_option linter.unusedVariables false
set_option linter.unusedSimpArgs false
set_option linter.unusedSectionVars false
set_option maxRecDepth 100000
open Bool renaming and_eq_true->Sq
open List renaming takeWhile_cons_of_pos->Ss,takeWhile_cons_of_neg->Su,suffix_refl->Sv,length_cons->Sw,eq_nil_of_length_eq_zero->Sx,length_nil->Sy,getElem?_eq_getElem->SA,dropWhile_suffix->SB,drop_succ_cons->SC,length_drop->SD
open Nat renaming le_refl->SE,strongRecOn->SF,le_trans->SG,add_zero->SH,zero_le->SI
namespace Go.Proofs.YtnhphlmblenapaaGreatDoor
open Go.RowKit
theorem lM(s:ByteArray)(c:Int)(w:World):
 Calls Tryz.prog 278 #[.string s,.int .u8 c] w fun e w'=>e=.returned (.int .i64 (Lib.indexByte s.data.toList c.toNat.toUInt8))/\w=w':=by
 have hx:∀w,(callFunc 305 #[.string s,.int .u8 c]).run Tryz.prog w=.ok (.value (.int .i64 (Lib.indexByte s.data.toList c.toNat.toUInt8))) w:=fun w=>by
  rw[run_callFunc_extern Tryz.func305 (by kernel_rfl) (by kernel_rfl) (by kernel_rfl) (e:=Extern.BytealgIndexByte.indexByte) (by kernel_rfl),Lib.run_indexByteString];rfl
 go_enter Tryz.func278,Tryz.ntmps278;go_wp2_with fail;go_ret;exact⟨rfl,rfl⟩
theorem Ef{s:ByteArray}{c:UInt8}(h:([c]==s.toList)=true):Lib.indexByte s.data.toList c=0:=by
 rw[ByteArray.toList_eq]at h;rw[<-(beq_iff_eq.1 h)];simp[Lib.indexByte]
theorem Ab(s:ByteArray)(c:UInt8)(w:World):
 Calls Tryz.prog 277 #[.string s,.string ⟨#[c]⟩] w fun e w'=>e=.returned (.int .i64 (Lib.indexByte s.data.toList c))/\w=w':=by
 by_cases he:([c]==s.toList)=true
 .have h0:=Ef he;have H0:=Lib.hid h0;clear h0;go_enter Tryz.func277,Tryz.ntmps277;go_wp2_with (go_at_call 278;refine(lM _ _ _).mono ?_;rintro e w' ⟨rfl,rfl⟩);go_ret;exact⟨cq H0.out.symm,rfl⟩
 .have he':([c]==s.toList)=false:=by simpa using he
  clear he;go_enter Tryz.func277,Tryz.ntmps277;go_wp2_with (go_at_call 278;refine(lM _ _ _).mono ?_;rintro e w' ⟨rfl,rfl⟩);go_ret;exact⟨cq (congrArg (Lib.indexByte s.data.toList) (by rfl)),rfl⟩
def nL(s:ByteArray)(c:UInt8):ByteArray:=if Lib.indexByte s.data.toList c = -1 then s else s.extract 0 (Lib.indexByte s.data.toList c).toNat
def nP(s:ByteArray)(c:UInt8):ByteArray:=if Lib.indexByte s.data.toList c = -1 then⟨#[]⟩else s.extract ((Lib.indexByte s.data.toList c).toNat+1) s.size
def oF(s:ByteArray)(c:UInt8):Bool:=decide (0≤Lib.indexByte s.data.toList c)
theorem tA{s:ByteArray}{c:UInt8}{o:Nat}(h:Lib.indexByte s.data.toList c=o):o<s.size:=by
 have:=(Lib.indexByte_some h).1;rw[Lib.size_eq];exact(List.getElem?_eq_some_iff.1 this).1
theorem DW(s:ByteArray)(c:UInt8)(w:World)(hs:s.size≤9223372036854775807):
 Calls Tryz.prog 275 #[.string s,.string ⟨#[c]⟩] w fun e w'=>e=.returned (.tuple #[.string (nL s c),.string (nP s c),.bool (oF s c)])/\Ext w w':=by
 have h1:=Lib.indexByte_ge s.data.toList c;unfold nL nP oF;have hc:=Ab s c;by_cases hi:Lib.indexByte s.data.toList c = -1
 .rw[hi]at hc ⊢;have HC:=Lib.hid hc;clear hc;clear h1 hi;go_enter Tryz.func275,Tryz.ntmps275;go_wp2_with (go_at_call 277;refine(HC.out _).mono ?_;rintro e w' ⟨rfl,rfl⟩);go_ret3;exact⟨rfl,Ext.refl _⟩
 .obtain⟨o,ho⟩:=Int.eq_ofNat_of_zero_le (a:=Lib.indexByte s.data.toList c) (by omega);have hlt:=tA ho;rw[ho]at hc ⊢;have HC:=Lib.hid hc;clear hc;clear h1 hi;have HO:=Lib.hid ho;clear ho;have e1:IntKind.i64.wrap ((o:Int)+1)=(o:Int)+1:=IntWalk.i64_in _ (by omega);have e2:((o:Int)+1).toNat=o+1:=by omega
  go_enter Tryz.func275,Tryz.ntmps275;go_wp2_with (go_at_call 277;refine(HC.out _).mono ?_;rintro e w' ⟨rfl,rfl⟩);go_quiet (fail);go_wp2_with fail;go_ret3;exact⟨rfl,(Ext.refl w).drewN _⟩
theorem Ic(s:ByteArray)(c:UInt8)(w:World)(hs:s.size≤9223372036854775807):
 Calls Tryz.prog 241 #[.string s,.string ⟨#[c]⟩] w fun e w'=>e=.returned (.tuple #[.string (nL s c),.string (nP s c),.bool (oF s c)])/\Ext w w':=by
 go_enter Tryz.func241,Tryz.ntmps241;go_wp2_with (go_at_call 275;refine(DW _ _ _ hs).mono ?_;rintro e w' ⟨rfl,hx⟩);go_ret3;exact⟨rfl,by assumption⟩
theorem H5(s:ByteArray)(c:UInt8):(nL s c).size≤s.size:=by
 unfold nL;split
 .exact SE _
 .simp;omega
theorem G8(s:ByteArray)(c:UInt8):(nP s c).size≤s.size:=by
 unfold nP;split
 .exact SI _
 .simp
def nC(t:ByteArray):Bool:=if h:t.size=2 then decide ((t[1]'(by omega)).toNat=93)&&decide (48≤(t[0]'(by omega)).toNat)&&decide ((t[0]'(by omega)).toNat<56)else false
def lH(s:ByteArray):Bool:=oF s 91&&bH (nL s 91)&&nC (nP s 91)
def tX(eb:Bool)(w:World)(e:Ending)(w':World):Prop:=∃a i,e=.returned (.tuple #[.string a,.int .i64 i,.bool eb])/\Ext w w'
theorem li{eb b:Bool}{w w':World}{a:ByteArray}{i:Int}(h:b=eb)(hx:Ext w w'):tX eb w (.returned (.tuple #[.string a,.int .i64 i,.bool b])) w':=⟨a,i,by rw[h],hx⟩
theorem rF{t:ByteArray}(h:¬t.size=2):nC t=false:=by unfold nC;rw[dif_neg h]
theorem kX{t:ByteArray}(h:t.size=2):nC t=(decide ((t[1]'(by omega)).toNat=93)&&decide (48≤(t[0]'(by omega)).toNat)&&decide ((t[0]'(by omega)).toNat<56)):=by unfold nC;rw[dif_pos h]
theorem vd(s:ByteArray)(w:World)(hs:s.size≤9223372036854775807)(hk:nS w):
 Calls Tryz.prog 257 #[.string s] w (tX (lH s) w):=by
 have hA:=H5 s 91;have hB:=G8 s 91;have hcut:=fun w=>Ic s 91 w hs;have hq:lH s=(oF s 91&&bH (nL s 91)&&nC (nP s 91)):=rfl;generalize lH s=eb at hq ⊢;generalize nL s 91=a at *;generalize nP s 91=b at *;generalize oF s 91=ok at *;have HQ:=Lib.hid hq;clear hq;have HK:=Lib.hid hk;clear hk;have HC:=Lib.hid hcut;clear hcut;by_cases hz:b.size=2
 .have k1:1<b.size:=by omega
  have k0:0<b.size:=by omega
  have HZ:=Lib.hid hz;clear hz;have hz2:((b.size:Int) != 2)=false:=by rw[HZ.out];rfl
  go_enter Tryz.func257,Tryz.ntmps257;go_wp2_with (first|(go_at_call 241;refine(HC.out _).mono ?_;rintro e w' ⟨rfl,hx⟩)|(go_at_call 96;refine(f5 _ _ (by omega) (HK.out.ext (by assumption))).mono ?_;rintro e w' ⟨rfl,hy⟩));all_goals (try (go_quiet (fail);go_wp2_with fail))
  all_goals go_ret3
  all_goals (go_light;refine li ?_ (by first|exact(hx.trans hy).drewN _|exact hx.trans hy|exact hx);rw[HQ.out];first|(simp[*];done)|(rw[kX HZ.out];simp[*];done)|(rw[kX HZ.out,Bool.eq_iff_iff];simp[*];omega))
 .have hc:=rF hz;have HH:=Lib.hid hc;clear hc;have hz2:((b.size:Int) != 2)=true:=by rw[bne_iff_ne];omega
  clear hz;go_enter Tryz.func257,Tryz.ntmps257;go_wp2_with (first|(go_at_call 241;refine(HC.out _).mono ?_;rintro e w' ⟨rfl,hx⟩)|(go_at_call 96;refine(f5 _ _ (by omega) (HK.out.ext (by assumption))).mono ?_;rintro e w' ⟨rfl,hy⟩));all_goals go_ret3
  all_goals (go_light;refine li ?_ (by first|exact hx.trans hy|exact hx);rw[HQ.out];first|(simp[*];done)|(rw[HH.out];simp;done))
abbrev Bs:=List UInt8
def inn(c:UInt8):Bool:=dR c.toNat
def xY(c:UInt8):Bool:=c==32||c==9||c==10
def ri:Nat->Bs->Bs
 | 0,l=>l
 | _+1,[]=>[]
 | k+1,c::r=>if xY c=true then ri k r else if c=47/\r.head? = some 47 then ri k ((c::r).dropWhile (· != 10))else c::r
def bC(l:Bs):Bs:=ri l.length l
theorem lj{c:UInt8}{r:Bs}(h:c=47):((c::r).dropWhile (· != 10)).length≤r.length:=by
 subst h;rw[List.dropWhile_cons_of_pos (by decide)];exact List.IsSuffix.length_le (SB _)
theorem Df:∀(k:Nat) (l:Bs),l.length≤k->ri k l=bC l:=by
 intro k
 induction k using SF with
 | ind k ih=>
 intro l hk
 match l with
 | []=>cases k<;>rfl
 | c::r=>
  match k with
  | 0=>simp at hk
  | k+1=>
   have hr:r.length≤k:=by simpa using hk
   unfold bC;simp only[Sw,ri];split
   .by_cases e:r.length<k
    .rw[ih k (by omega) r hr];rfl
    .have:r.length=k:=by omega
     rw[this]
   .split
    .rename_i h;have hd:=lj (r:=r) h.1;rw[ih k (by omega) _ (by omega)];by_cases e:r.length<k+1
     .exact(ih r.length e _ hd).symm
     .omega
    .rfl
theorem fO:bC []=[]:=rfl
theorem dO(c:UInt8)(r:Bs):bC (c::r)=if xY c=true then bC r else if c=47/\r.head? = some 47 then bC ((c::r).dropWhile (· != 10))else c::r:=by
 show ri (r.length+1) (c::r)=_;rw[ri];split
 .rfl
 .split
  .rename_i h;exact Df _ _ (lj h.1)
  .rfl
theorem ta:∀(k:Nat) (l:Bs),l.length≤k->bC l <:+ l:=by
 intro k
 induction k with
 | zero=>intro l h;have:l=[]:=Sx (by omega);subst this;exact Sv _
 | succ k ih=>
  intro l h
  match l with
  | []=>exact Sv _
  | c::r=>
   have hr:r.length≤k:=by simpa using h
   rw[dO];split
   .exact(ih r hr).trans (List.suffix_cons _ _)
   .split
    .rename_i hc;exact(ih _ (SG (lj hc.1) hr)).trans (SB _)
    .exact Sv _
theorem dH(l:Bs):bC l <:+ l:=ta _ l (SE _)
theorem jb(l:Bs):bC (bC l)=bC l:=by
 suffices H:∀(k:Nat) (l:Bs),l.length≤k->bC (bC l)=bC l from H _ l (SE _)
 intro k
 induction k with
 | zero=>intro l h;have:l=[]:=Sx (by omega);subst this;rfl
 | succ k ih=>
  intro l h
  match l with
  | []=>rfl
  | c::r=>
   have hr:r.length≤k:=by simpa using h
   rw[dO];split
   .exact ih r hr
   .split
    .rename_i hc;exact ih _ (SG (lj hc.1) hr)
    .rename_i h1 h2;rw[dO,if_neg h1,if_neg h2]
def aM:List Bs:=[[40],[41],[123],[125],[91],[93],[44],[59],[58],[46,46],[63],[61],[61,61],[33,61],[60],[60,61],[62],[62,61],[60,60],[62,62],[43],[45],[42],[38],[124],[94],[126],[33],[38,38],[124,124],[45,62],[61,62],[58,61],[58,47],[35,35],[64]]
def gA:List Bs->Nat->Bs->Nat
 | [],b,_=>b
 | m::r,b,l=>gA r (if b<m.length/\m.isPrefixOf l=true then m.length else b) l
def dJ(l:Bs):Nat:=gA aM 0 l
def ci(l:Bs):Nat:=l.foldl (fun n c=>10*n+(c.toNat-48)) 0
inductive Rd where
 | err (e:Int)
 | tok (kind num:Int) (len:Nat)
def cZ:Bs->Rd
 | []=>.err 5
 | c::r=>
  if eQ c.toNat=true then
   if 16<((c::r).takeWhile inn).length then .err 2
   else .tok (if inB ⟨((c::r).takeWhile inn).toArray⟩ ch=true then 2 else 1) 0 ((c::r).takeWhile inn).length
  else if dD c.toNat=true then
   if(((c::r).takeWhile inn).all fun x=>dD x.toNat)=false\/(1<((c::r).takeWhile inn).length/\c=48)then .err 5
   else if 2147483647<ci ((c::r).takeWhile inn)then .err 3
   else .tok 3 (ci ((c::r).takeWhile inn)) ((c::r).takeWhile inn).length
  else if dJ (c::r)=0 then .err 5 else .tok 4 0 (dJ (c::r))
structure Tok where
 kind:Int
 num:Int
 text:ByteArray
 line:Int
inductive Lx where
 | ok (l:List Tok)
 | err (line e:Int)
def Lx.cons(t:Tok):Lx->Lx
 | .ok l=>.ok (t::l)
 | .err n e=>.err n e
def Lx.app(ts:List Tok):Lx->Lx
 | .ok l=>.ok (ts++l)
 | .err n e=>.err n e
def g8(N:Int)(r:Bs)(kind num:Int)(len:Nat):Tok:=⟨kind,num,⟨(r.take len).toArray⟩,N-(r.count 10:Nat)⟩
def Be:Nat->Int->Bs->Lx
 | 0,_,_=>.ok []
 | k+1,N,l=>match bC l with
  | []=>.ok []
  | c::r=>match cZ (c::r)with
   | .err e=>.err (N-((c::r).count 10:Nat)) e
   | .tok kind num len=>(Be k N ((c::r).drop len)).cons (g8 N (c::r) kind num len)
def fK(N:Int)(l:Bs):Lx:=Be (l.length+1) N l
def cR(l:Bs):Lx:=fK (1+(l.count 10:Nat)) l
theorem nr:∀(ms:List Bs) (b:Nat) (l:Bs),gA ms b l=b\/∃m,m∈ms/\m.isPrefixOf l=true/\gA ms b l=m.length
 | [],b,l=>.inl rfl
 | m::r,b,l=>by
  simp only[gA];split
  .rename_i h;rcases nr r m.length l with h1|⟨m',h1,h2,h3⟩
   .exact .inr ⟨m,by simp,h.2,h1⟩
   .exact .inr ⟨m',by simp[h1],h2,h3⟩
  .rcases nr r b l with h1|⟨m',h1,h2,h3⟩
   .exact .inl h1
   .exact .inr ⟨m',by simp[h1],h2,h3⟩
theorem s9(l:Bs):dJ l≤l.length/\dJ l≤2:=by
 rcases nr aM 0 l with h|⟨m,h1,h2,h3⟩
 .unfold dJ;rw[h];omega
 .have h4:=(List.isPrefixOf_iff_prefix.1 h2).length_le;have h5:m.length≤2:=(by decide:∀m,m∈aM->m.length≤2) m h1;unfold dJ;omega
theorem iN{l:Bs}{kind num:Int}{len:Nat}(h:cZ l=.tok kind num len):1≤len/\len≤l.length:=by
 match l with
 | []=>cases h
 | c::r=>
  have htw:((c::r).takeWhile inn).length≤(c::r).length:=(List.takeWhile_prefix _).length_le;have h1:inn c=true->1≤((c::r).takeWhile inn).length:=fun hi=>by rw[Ss hi];simp
  simp only[cZ]at h;split at h
  .rename_i hl;split at h
   .cases h
   .cases h;exact⟨h1 (by unfold inn dR;simp[hl]),htw⟩
  .split at h
   .rename_i hd;split at h
    .cases h
    .split at h
     .cases h
     .cases h;exact⟨h1 (by unfold inn dR;simp[hd]),htw⟩
   .split at h
    .cases h
    .cases h;have:=s9 (c::r);omega
theorem HU:∀(k:Nat) (N:Int) (l:Bs),l.length<k->Be k N l=fK N l:=by
 intro k
 induction k using SF with
 | ind k ih=>
 intro N l hk
 match k with
 | 0=>omega
 | k+1=>
  unfold fK;simp only[Be];have hs:=(dH l).length_le;cases hsk:bC l with
  | nil=>rfl
  | cons c r=>
   rw[hsk]at hs;simp only;cases hrd:cZ (c::r)with
   | err e=>rfl
   | tok kind num len=>
    obtain⟨h1,h2⟩:=iN hrd;have h3:((c::r).drop len).length<l.length:=by rw[SD];omega
    simp only;rw[ih k (by omega) N _ (by omega)];by_cases e:l.length<k+1
    .rw[ih l.length (by omega) N _ h3]
    .omega
theorem cW(N:Int)(l:Bs):fK N l=match bC l with
 | []=>.ok []
 | c::r=>match cZ (c::r)with
  | .err e=>.err (N-((c::r).count 10:Nat)) e
  | .tok kind num len=>(fK N ((c::r).drop len)).cons (g8 N (c::r) kind num len):=by
 have:fK N l=Be (l.length+1) N l:=rfl;rw[this,Be];have hs:=(dH l).length_le;cases hsk:bC l with
 | nil=>rfl
 | cons c r=>
  rw[hsk]at hs;simp only;cases hrd:cZ (c::r)with
  | err e=>rfl
  | tok kind num len=>
   obtain⟨h1,h2⟩:=iN hrd;simp only;rw[HU _ N _ (by rw[SD];omega)]
theorem u2:∀m,m∈aM->m.length≤2:=by decide
def bO(t:Tok):Bool:=
 if t.kind=3 then decide (0≤t.num)&&decide (t.num≤2147483647)&&(t.text.data.toList==Lib.decDigits t.num.toNat)
 else if t.kind=1 then decide (t.num=0)&&bH t.text
 else if t.kind=2 then decide (t.num=0)&&inB t.text ch
 else if t.kind=4 then decide (t.num=0)&&aM.contains t.text.data.toList
 else false
theorem vn(d:Nat)(h:d<10):(UInt8.ofNat (48+d)).toNat=48+d:=by
 have:∀d,d<10->(UInt8.ofNat (48+d)).toNat=48+d:=by decide
 exact this d h
def j6:List Tok->Bs
 | []=>[]
 | [t]=>t.text.data.toList
 | t::u::r=>t.text.data.toList++32::j6 (u::r)
def bs(l:Bs):ByteArray:=⟨l.toArray⟩
theorem bu(l:Bs):(bs l).data.toList=l:=by simp[bs]
theorem jk(s:ByteArray):bs s.data.toList=s:=Lib.mk_data s
theorem aE(l:Bs):(bs l).size=l.length:=by rw[Lib.size_eq,bu]
theorem HA(l:Bs)(n:Nat):(bs l).extract 0 n=bs (l.take n):=by rw[Lib.extract_eq,bu];rfl
theorem Hu(l:Bs)(n:Nat):(bs l).extract n (bs l).size=bs (l.drop n):=by
 rw[Lib.extract_eq,bu,aE];unfold bs;rw[List.take_of_length_le (by simp)]
theorem uA{a b:Bs}:bs a=bs b↔a=b:=⟨fun h=>by rw[<-bu a,<-bu b,h],fun h=>by rw[h]⟩
theorem cG:bs []=⟨#[]⟩:=rfl
theorem fR(a b:Bs):bs a++bs b=bs (a++b):=by
 apply ByteArray.ext;apply Array.ext';simp[bs]
theorem tI(a b:Bs):decide (bs a=bs b)=decide (a=b):=by rw[decide_eq_decide];exact uA
def dig(x:UInt8):Bool:=dD x.toNat
theorem zv{x:UInt8}(h:dig x=true):inn x=true:=by unfold dig at h;simp[inn,dR,h]
theorem uS:∀l:Bs,((l.takeWhile inn).all dig=true/\l.takeWhile dig=l.takeWhile inn/\(l.drop (l.takeWhile dig).length).takeWhile inn=[])\/((l.takeWhile inn).all dig=false/\(l.drop (l.takeWhile dig).length).takeWhile inn≠[])
 | []=>.inl ⟨rfl,rfl,rfl⟩
 | a::l=>by
  by_cases h:dig a=true
  .rw[Ss h,Ss (zv h)];simp only[Sw,SC,List.all_cons,h,Bool.true_and];rcases uS l with⟨h1,h2,h3⟩|⟨h1,h2⟩
   .exact .inl ⟨h1,by rw[h2],h3⟩
   .exact .inr ⟨h1,h2⟩
  .rw[Su h];simp only[Sy,List.drop_zero];by_cases hi:inn a=true
   .rw[Ss hi];refine .inr ⟨by simp[h],by simp⟩
   .rw[Su hi];exact .inl ⟨rfl,rfl,rfl⟩
def qr(acc:Nat)(l:Bs):Nat:=l.foldl (fun n c=>10*n+(c.toNat-48)) acc
theorem tL:∀(l:Bs) (acc:Nat),acc≤qr acc l
 | [],acc=>SE _
 | c::r,acc=>by have:=tL r (10*acc+(c.toNat-48));simp only[qr,List.foldl_cons]at this ⊢;omega
theorem rR:∀(l:Bs) (acc:Nat),(∀x,x∈l->dig x=true)->acc≤18446744073709551615->Lib.parseUintM 18446744073709551615 acc l=if qr acc l≤18446744073709551615 then .ok (qr acc l)else .range
 | [],acc,_,h=>(if_pos h).symm
 | c::r,acc,hd,h=>by
  have hc:=hd c (by simp);simp only[dig,dD,Sq,decide_eq_true_eq]at hc;have hge:=tL r (10*acc+(c.toNat-48));have hst:qr acc (c::r)=qr (10*acc+(c.toNat-48)) r:=rfl;rw[hst,Lib.parseUintM,if_pos (by omega)];split
  .rw[if_neg (by omega)]
  .split
   .rw[if_neg (by omega)]
   .rw[show acc*10+(c.toNat-48)=10*acc+(c.toNat-48)by omega];exact rR r _ (fun x hx=>hd x (by simp[hx])) (by omega)
theorem mY{l:Bs}(h0:l≠[])(hd:∀x,x∈l->dig x=true):Lib.parseIntB 64 l=if ci l≤9223372036854775807 then .ok (ci l)else .range:=by
 match l,h0 with
 | c::r,_=>
  have hc:=hd c (by simp);simp only[dig,dD,Sq,decide_eq_true_eq]at hc;rw[Lib.parseIntB_plain 64 c r (by omega) (by omega)];have hp:=rR (c::r) 0 hd (by omega)
  have hu:Lib.parseUintB 64 (c::r)=if ci (c::r)≤18446744073709551615 then .ok (ci (c::r))else .range:=by
   unfold Lib.parseUintB;rw[if_neg (by simp)];exact hp
  rw[hu];generalize ci (c::r)=v;by_cases h1:v≤18446744073709551615
  .rw[if_pos h1];simp only[Lib.signlessC];by_cases h2:v≤9223372036854775807
   .rw[if_pos h2,if_neg (by omega)]
   .rw[if_neg h2,if_pos (by omega)]
  .rw[if_neg h1,if_neg (by omega)];rfl
structure ByteP(q:UInt8->Bool)(p:Int->Bool):Prop where
 low:∀b:UInt8,b.toNat<128->p b.toNat=q b
 high:∃v,(∀c:Int,128≤c->p c=v)/\∀b:UInt8,128≤b.toNat->q b=v
theorem En(s:ByteArray)(k:Nat)(h:k<s.size):s.get! k=s[k]'h:=by
 simp[ByteArray.get!,getElem!_pos,h];rfl
theorem kJ(s:ByteArray)(k:Nat)(h:k<s.size):s.data.toList[k]? = some (s[k]'h):=by
 have h1:s.data.toList.length=s.size:=Lib.size_eq s;rw[SA (by omega)];rfl
theorem vA(s:ByteArray)(pos:Nat)(h:pos<s.size)(ha:128≤(s[pos]'h).toNat):1≤(Utf8.decode s pos).2/\∀k,k<(Utf8.decode s pos).2->∃hk:pos+k<s.size,128≤(s[pos+k]'hk).toNat:=by
 have e0:s.get! (pos+0)=s[pos]'h:=En s pos h;have e2:¬(s[pos]'h).toNat<128:=by omega
 have one:∀k,k<1->∃hk:pos+k<s.size,128≤(s[pos+k]'hk).toNat:=fun k hk=>by
  have:k=0:=by omega
  subst this;exact⟨h,ha⟩
 have cont:∀k,(decide (pos+k<s.size)&&((s.get! (pos+k)).toNat/64==2))=true->∃hk:pos+k<s.size,128≤(s[pos+k]'hk).toNat:=fun k hk=>by
  simp only[Sq,decide_eq_true_eq,beq_iff_eq]at hk;refine⟨hk.1,?_⟩;have:=hk.2;rw[En s _ hk.1]at this;omega
 simp only[Utf8.decode,e0,e2,if_false];split
 .rename_i h1;simp only[Sq]at h1;split
  .refine⟨by omega,fun k hk=>?_⟩;have:k=0\/k=1:=by simp only at hk;omega
   rcases this with rfl|rfl
   .exact⟨h,ha⟩
   .exact cont 1 (by simpa using h1.2)
  .exact⟨by omega,one⟩
 .split
  .rename_i h1;simp only[Sq]at h1;split
   .refine⟨by omega,fun k hk=>?_⟩;have:k=0\/k=1\/k=2:=by simp only at hk;omega
    rcases this with rfl|rfl|rfl
    .exact⟨h,ha⟩
    .exact cont 1 (by simpa using h1.1.2)
    .exact cont 2 (by simpa using h1.2)
   .exact⟨by omega,one⟩
  .split
   .rename_i h1;simp only[Sq]at h1;split
    .refine⟨by omega,fun k hk=>?_⟩;have:k=0\/k=1\/k=2\/k=3:=by simp only at hk;omega
     rcases this with rfl|rfl|rfl|rfl
     .exact⟨h,ha⟩
     .exact cont 1 (by simpa using h1.1.1.2)
     .exact cont 2 (by simpa using h1.1.2)
     .exact cont 3 (by simpa using h1.2)
    .exact⟨by omega,one⟩
   .exact⟨by omega,one⟩
theorem D7(q:UInt8->Bool):∀(n:Nat) (l:Bs),(∀k,k<n->∃b,l[k]? = some b/\q b=true)->(l.takeWhile q).length=n+((l.drop n).takeWhile q).length
 | 0,l,_=>by simp
 | n+1,[],h=>by obtain⟨b,h1,-⟩:=h 0 (by omega);simp at h1
 | n+1,a::l,h=>by
  obtain⟨b,h1,h2⟩:=h 0 (by omega);simp only[List.getElem?_cons_zero,Option.some.injEq]at h1;subst h1;have:=D7 q n l (fun k hk=>by obtain⟨b,h3,h4⟩:=h (k+1) (by omega);exact⟨b,by simpa using h3,h4⟩);rw[Ss h2,SC,Sw,this];omega
theorem EC(F:FuncId)(cap:Array Value)(q:UInt8->Bool)(p:Int->Bool)(hq:ByteP q p)(hF:∀args w,(callFunc F args).run Tryz.prog w=.ok (.enter F args) w)
 (H:∀(c:Int) (w:World),Calls Tryz.prog F (#[.int .i32 c]++cap) w fun e w'=>e=.returned (.bool (p c))/\w=w')(s:ByteArray)(w:World)(hs:s.size≤9223372036854775807):
 Calls Tryz.prog 167 #[.string s,.func (.func F) #[] cap] w fun e w'=>e=.returned (.int .i64 (s.data.toList.takeWhile q).length)/\Ext w w':=by
 have HH:=Lib.hid H;clear H;obtain⟨N,hN⟩:∃N,N=(s.data.toList.takeWhile q).length:=⟨_,rfl⟩
 rw[<-hN];have HN:=Lib.hid hN;clear hN;have HQ:=Lib.hid hq;clear hq;go_enter Tryz.func167,Tryz.ntmps167;go_wp2_with fail;go_loopw [5,6] (fun _ _ wr=>∃pos:Nat,pos≤s.size/\wr=w.iter s pos/\N=pos+((s.data.toList.drop pos).takeWhile q).length) (fun _ _ wr=>match wr.heap[w.heap.size]? with|some (.stringIter _ p)=>s.size-p|_=>0);case atStart=>exact⟨0,SI _,rfl,by rw[HN.out];simp⟩
 case round=>
  obtain⟨pos,hp,rfl,hb⟩:=hrel;have HB:=Lib.hid hb;clear hb;by_cases hlt:pos<s.size
  .have hnx:=fun ty=>mP (P:=Tryz.prog) w s pos ty hlt;have hl:s.data.toList[pos]? = some (s[pos]'hlt):=kJ s pos hlt
   have hpq:p (Utf8.decode s pos).1=q (s[pos]'hlt)/\(q (s[pos]'hlt)=true->1≤(Utf8.decode s pos).2/\pos+(Utf8.decode s pos).2≤s.size/\N=pos+(Utf8.decode s pos).2+((s.data.toList.drop (pos+(Utf8.decode s pos).2)).takeWhile q).length):=by
    have adv:∀n,(∀k,k<n->∃hk:pos+k<s.size,q (s[pos+k]'hk)=true)->pos+n≤s.size/\N=pos+n+((s.data.toList.drop (pos+n)).takeWhile q).length:=fun n h=>by
     have h1:pos+n≤s.size:=by
      cases n with
      | zero=>omega
      | succ n=>obtain⟨hk,-⟩:=h n (by omega);omega
     refine⟨h1,?_⟩;rw[HB.out,D7 q n _ (fun k hk=>?_),List.drop_drop]
     .omega
     .obtain⟨hk2,h3⟩:=h k hk;exact⟨_,by rw[List.getElem?_drop];exact kJ s _ hk2,h3⟩
    by_cases ha:(s[pos]'hlt).toNat<128
    .rw[decode_ascii s pos hlt ha];refine⟨HQ.out.low _ ha,fun h=>⟨by omega,adv 1 fun k hk=>?_⟩⟩;have:k=0:=by omega
     subst this;exact⟨hlt,h⟩
    .obtain⟨v,h1,h2⟩:=HQ.out.high;have hd:=kf s pos hlt (by omega);obtain⟨g1,g2⟩:=vA s pos hlt (by omega);rw[h1 _ (by omega),h2 _ (by omega)];refine⟨rfl,fun h=>⟨g1,adv _ fun k hk=>?_⟩⟩;obtain⟨g3,g4⟩:=g2 k hk;exact⟨g3,by rw[h2 _ g4];exact h⟩
   have HPQ:=Lib.hid hpq;clear hpq;generalize hrd:(Utf8.decode s pos).1=rn at *;generalize hwd:(Utf8.decode s pos).2=wd at *;cases hqv:q (s[pos]'hlt)with
   | true=>
    go_wp2_with fail;refine(HH.out _ _).mono ?_;rintro e2 w2 ⟨rfl,rfl⟩;have hpv:=HPQ.out.1;rw[hqv]at hpv;rw[hpv];obtain⟨g1,g2,g3⟩:=HPQ.out.2 hqv;go_wp2_with fail;go_roundw;case rel=>exact⟨pos+wd,g2,rfl,g3⟩
    case measure=>simp[World.iter_heap];omega
   | false=>
    go_wp2_with fail;refine(HH.out _ _).mono ?_;rintro e2 w2 ⟨rfl,rfl⟩;have hpv:=HPQ.out.1;rw[hqv]at hpv;rw[hpv];go_wp2_with fail;go_ret;refine⟨cq ?_,(Ext.refl w).iter _ _⟩
    have hnil:(s.data.toList.drop pos).takeWhile q=[]:=by
     rw[List.drop_eq_getElem_cons (by have:=Lib.size_eq s;omega)]
     have:s.data.toList[pos]'(by have:=Lib.size_eq s;omega)=s[pos]'hlt:=by
      have h9:=SA (l:=s.data.toList) (i:=pos) (by have:=Lib.size_eq s;omega);rw[hl]at h9;exact(Option.some.inj h9).symm
     rw[Su (by rw[this,hqv];decide)]
    have h8:=HB.out;rw[hnil]at h8;simp only[Sy,SH]at h8;rw[h8]
  .have:pos=s.size:=by omega
   subst this;have hnx:=fun ty=>run_next_end (P:=Tryz.prog) w s s.size ty (by omega);go_wp2_with fail;go_ret;refine⟨cq ?_,(Ext.refl w).iter _ _⟩;have h8:=HB.out;rw[List.drop_of_length_le (by have:=Lib.size_eq s;omega)]at h8;simp only[List.takeWhile_nil,Sy,SH]at h8;rw[h8]
end Go.Proofs.YtnhphlmblenapaaGreatDoor
