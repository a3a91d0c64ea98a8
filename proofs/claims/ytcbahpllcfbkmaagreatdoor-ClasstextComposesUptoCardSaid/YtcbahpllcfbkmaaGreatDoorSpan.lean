import Derived.Test.YtcbahpllcfbkmaaGreatDoorNames
import Derived.Lib.Bytealg
import Derived.Deep.RegionHeld3
import Derived.BigRegion
import Derived.Laws.Externs
import Derived.Deep.Light
import Derived.Lib.IndexLaws
import Derived.Lib.ItoaNum
import Derived.Test.YtcbahpllcfbkmaaGreatDoorA20
import Derived.Lib.ParseIntB
import Derived.Lib.ParseIntBCases
set_option linter.unusedVariables false
set_option linter.unusedSimpArgs false
set_option linter.unusedSectionVars false
namespace Go.Proofs.YtcbahpllcfbkmaaGreatDoor
open Go.RowKit
set_option maxRecDepth 100000 in
theorem gO(s:ByteArray)(c:Int)(w:World):
 Calls Tryz.prog 178 #[.string s,.int .u8 c] w fun e w'=>e=.returned (.int .i64 (Lib.indexByte s.data.toList c.toNat.toUInt8))∧w=w':=by
 have hx:∀w,(callFunc 182 #[.string s,.int .u8 c]).run Tryz.prog w=.ok (.value (.int .i64 (Lib.indexByte s.data.toList c.toNat.toUInt8))) w:=fun w=>by
  rw[run_callFunc_extern Tryz.func182 (by kernel_rfl) (by kernel_rfl) (by kernel_rfl) (e:=Extern.BytealgIndexByte.indexByte) (by kernel_rfl),Lib.run_indexByteString];rfl
 go_enter Tryz.func178,Tryz.ntmps178;go_wp2_with fail;go_ret;exact⟨rfl,rfl⟩
theorem tJ{s:ByteArray}{c:UInt8}(h:([c]==s.toList)=true):Lib.indexByte s.data.toList c=0:=by
 rw[ByteArray.toList_eq]at h;rw[←(beq_iff_eq.1 h)];simp[Lib.indexByte]
set_option maxRecDepth 100000 in
theorem rC(s:ByteArray)(c:UInt8)(w:World):
 Calls Tryz.prog 172 #[.string s,.string ⟨#[c]⟩] w fun e w'=>e=.returned (.int .i64 (Lib.indexByte s.data.toList c))∧w=w':=by
 by_cases he:([c]==s.toList)=true
 ·have h0:=tJ he;have H0:=Lib.hid h0;clear h0;go_enter Tryz.func172,Tryz.ntmps172;go_wp2_with (go_at_call 178;refine(gO _ _ _).mono ?_;rintro e w' ⟨rfl,rfl⟩);go_ret;exact⟨bT H0.out.symm,rfl⟩
 ·have he':([c]==s.toList)=false:=by simpa using he
  clear he;go_enter Tryz.func172,Tryz.ntmps172;go_wp2_with (go_at_call 178;refine(gO _ _ _).mono ?_;rintro e w' ⟨rfl,rfl⟩);go_ret;exact⟨bT (congrArg (Lib.indexByte s.data.toList) (by rfl)),rfl⟩
def cI(s:ByteArray)(c:UInt8):ByteArray:=if Lib.indexByte s.data.toList c = -1 then s else s.extract 0 (Lib.indexByte s.data.toList c).toNat
def eG(s:ByteArray)(c:UInt8):ByteArray:=if Lib.indexByte s.data.toList c = -1 then⟨#[]⟩else s.extract ((Lib.indexByte s.data.toList c).toNat+1) s.size
def fh(s:ByteArray)(c:UInt8):Bool:=decide (0≤Lib.indexByte s.data.toList c)
theorem m4{s:ByteArray}{c:UInt8}{o:Nat}(h:Lib.indexByte s.data.toList c=o):o<s.size:=by
 have:=(Lib.indexByte_some h).1;rw[Lib.size_eq];exact(List.getElem?_eq_some_iff.1 this).1
set_option maxRecDepth 100000 in
theorem uu(s:ByteArray)(c:UInt8)(w:World)(hs:s.size≤9223372036854775807):
 Calls Tryz.prog 160 #[.string s,.string ⟨#[c]⟩] w fun e w'=>e=.returned (.tuple #[.string (cI s c),.string (eG s c),.bool (fh s c)])∧Ext w w':=by
 have h1:=Lib.indexByte_ge s.data.toList c;unfold cI eG fh;have hc:=rC s c;by_cases hi:Lib.indexByte s.data.toList c = -1
 ·rw[hi]at hc ⊢;have HC:=Lib.hid hc;clear hc;clear h1 hi;go_enter Tryz.func160,Tryz.ntmps160;go_wp2_with (go_at_call 172;refine(HC.out _).mono ?_;rintro e w' ⟨rfl,rfl⟩);go_ret3;exact⟨rfl,Ext.refl _⟩
 ·obtain⟨o,ho⟩:=Int.eq_ofNat_of_zero_le (a:=Lib.indexByte s.data.toList c) (by omega);have hlt:=m4 ho;rw[ho]at hc ⊢;have HC:=Lib.hid hc;clear hc;clear h1 hi;have HO:=Lib.hid ho;clear ho;have e1:IntKind.i64.wrap ((o:Int)+1)=(o:Int)+1:=IntWalk.i64_in _ (by omega);have e2:((o:Int)+1).toNat=o+1:=by omega
  go_enter Tryz.func160,Tryz.ntmps160;go_wp2_with (go_at_call 172;refine(HC.out _).mono ?_;rintro e w' ⟨rfl,rfl⟩);go_quiet (fail);go_wp2_with fail;go_ret3;exact⟨rfl,(Ext.refl w).drewN _⟩
theorem qo(s:ByteArray)(c:UInt8)(w:World)(hs:s.size≤9223372036854775807):
 Calls Tryz.prog 144 #[.string s,.string ⟨#[c]⟩] w fun e w'=>e=.returned (.tuple #[.string (cI s c),.string (eG s c),.bool (fh s c)])∧Ext w w':=by
 go_enter Tryz.func144,Tryz.ntmps144;go_wp2_with (go_at_call 160;refine(uu _ _ _ hs).mono ?_;rintro e w' ⟨rfl,hx⟩);go_ret3;exact⟨rfl,by assumption⟩
theorem qr(s:ByteArray)(c:UInt8):(cI s c).size≤s.size:=by
 unfold cI;split
 ·exact Nat.le_refl _
 ·simp;omega
theorem qk(s:ByteArray)(c:UInt8):(eG s c).size≤s.size:=by
 unfold eG;split
 ·exact Nat.zero_le _
 ·simp
def ja(t:ByteArray):Bool:=if h:t.size=2 then decide ((t[1]'(by omega)).toNat=93)&&decide (48≤(t[0]'(by omega)).toNat)&&decide ((t[0]'(by omega)).toNat<56)else false
def dj(s:ByteArray):Bool:=fh s 91&&aL (cI s 91)&&ja (eG s 91)
def mJ(eb:Bool)(w:World)(e:Ending)(w':World):Prop:=∃a i,e=.returned (.tuple #[.string a,.int .i64 i,.bool eb])∧Ext w w'
theorem gq{eb b:Bool}{w w':World}{a:ByteArray}{i:Int}(h:b=eb)(hx:Ext w w'):mJ eb w (.returned (.tuple #[.string a,.int .i64 i,.bool b])) w':=⟨a,i,by rw[h],hx⟩
theorem iY{t:ByteArray}(h:¬t.size=2):ja t=false:=by unfold ja;rw[dif_neg h]
theorem fp{t:ByteArray}(h:t.size=2):ja t=(decide ((t[1]'(by omega)).toNat=93)&&decide (48≤(t[0]'(by omega)).toNat)&&decide ((t[0]'(by omega)).toNat<56)):=by unfold ja;rw[dif_pos h]
set_option maxRecDepth 100000 in
theorem nM(s:ByteArray)(w:World)(hs:s.size≤9223372036854775807)(hk:iW w):
 Calls Tryz.prog 155 #[.string s] w (mJ (dj s) w):=by
 have hA:=qr s 91;have hB:=qk s 91;have hcut:=fun w=>qo s 91 w hs;have hq:dj s=(fh s 91&&aL (cI s 91)&&ja (eG s 91)):=rfl;generalize dj s=eb at hq ⊢;generalize cI s 91=a at *;generalize eG s 91=b at *;generalize fh s 91=ok at *;have HQ:=Lib.hid hq;clear hq;have HK:=Lib.hid hk;clear hk;have HC:=Lib.hid hcut;clear hcut;by_cases hz:b.size=2
 ·have k1:1<b.size:=by omega
  have k0:0<b.size:=by omega
  have HZ:=Lib.hid hz;clear hz;have hz2:((b.size:Int) != 2)=false:=by rw[HZ.out];rfl
  go_enter Tryz.func155,Tryz.ntmps155;go_wp2_with (first|(go_at_call 144;refine(HC.out _).mono ?_;rintro e w' ⟨rfl,hx⟩)|(go_at_call 65;refine(eu _ _ (by omega) (HK.out.ext (by assumption))).mono ?_;rintro e w' ⟨rfl,hy⟩));all_goals (try (go_quiet (fail);go_wp2_with fail))
  all_goals go_ret3
  all_goals (go_light;refine gq ?_ (by first|exact(hx.trans hy).drewN _|exact hx.trans hy|exact hx);rw[HQ.out];first|(simp[*];done)|(rw[fp HZ.out];simp[*];done)|(rw[fp HZ.out,Bool.eq_iff_iff];simp[*];omega))
 ·have hc:=iY hz;have HH:=Lib.hid hc;clear hc;have hz2:((b.size:Int) != 2)=true:=by rw[bne_iff_ne];omega
  clear hz;go_enter Tryz.func155,Tryz.ntmps155;go_wp2_with (first|(go_at_call 144;refine(HC.out _).mono ?_;rintro e w' ⟨rfl,hx⟩)|(go_at_call 65;refine(eu _ _ (by omega) (HK.out.ext (by assumption))).mono ?_;rintro e w' ⟨rfl,hy⟩));all_goals go_ret3
  all_goals (go_light;refine gq ?_ (by first|exact hx.trans hy|exact hx);rw[HQ.out];first|(simp[*];done)|(rw[HH.out];simp;done))
abbrev Bs:=List UInt8
def inn(c:UInt8):Bool:=dw c.toNat
def Dn(c:UInt8):Bool:=c==32||c==9||c==10
def wB:Nat→Bs→Bs
 | 0,l=>l
 | _+1,[]=>[]
 | k+1,c::r=>if Dn c=true then wB k r else if c=47∧r.head? = some 47 then wB k ((c::r).dropWhile (· != 10))else c::r
def CD(l:Bs):Bs:=wB l.length l
def na:List Bs:=[[40],[41],[123],[125],[91],[93],[44],[59],[58],[46,46],[63],[61],[61,61],[33,61],[60],[60,61],[62],[62,61],[60,60],[62,62],[43],[45],[42],[38],[124],[94],[126],[33],[38,38],[124,124],[45,62],[61,62],[58,61],[58,47],[35,35],[64]]
def yV:List Bs→Nat→Bs→Nat
 | [],b,_=>b
 | m::r,b,l=>yV r (if b<m.length∧m.isPrefixOf l=true then m.length else b) l
def yQ(l:Bs):Nat:=yV na 0 l
def BA(l:Bs):Nat:=l.foldl (fun n c=>10*n+(c.toNat-48)) 0
inductive Rd where
 | err (e:Int)
 | tok (kind num:Int) (len:Nat)
def BS:Bs→Rd
 | []=>.err 5
 | c::r=>
  if ec c.toNat=true then
   if 16<((c::r).takeWhile inn).length then .err 2
   else .tok (if inB ⟨((c::r).takeWhile inn).toArray⟩ cV=true then 2 else 1) 0 ((c::r).takeWhile inn).length
  else if gW c.toNat=true then
   if(((c::r).takeWhile inn).all fun x=>gW x.toNat)=false∨(1<((c::r).takeWhile inn).length∧c=48)then .err 5
   else if 2147483647<BA ((c::r).takeWhile inn)then .err 3
   else .tok 3 (BA ((c::r).takeWhile inn)) ((c::r).takeWhile inn).length
  else if yQ (c::r)=0 then .err 5 else .tok 4 0 (yQ (c::r))
structure Tok where
 kind:Int
 num:Int
 text:ByteArray
 line:Int
def xL(t:Tok):Bool:=
 if t.kind=3 then decide (0≤t.num)&&decide (t.num≤2147483647)&&(t.text.data.toList==Lib.decDigits t.num.toNat)
 else if t.kind=1 then decide (t.num=0)&&aL t.text
 else if t.kind=2 then decide (t.num=0)&&inB t.text cV
 else if t.kind=4 then decide (t.num=0)&&na.contains t.text.data.toList
 else false
theorem uE(d:Nat)(h:d<10):(UInt8.ofNat (48+d)).toNat=48+d:=by
 have:∀d,d<10→(UInt8.ofNat (48+d)).toNat=48+d:=by decide
 exact this d h
def bs(l:Bs):ByteArray:=⟨l.toArray⟩
theorem bt(l:Bs):(bs l).data.toList=l:=by simp[bs]
theorem dJ(s:ByteArray):bs s.data.toList=s:=Lib.mk_data s
theorem cj(l:Bs):(bs l).size=l.length:=by rw[Lib.size_eq,bt]
theorem wY(l:Bs)(n:Nat):(bs l).extract 0 n=bs (l.take n):=by rw[Lib.extract_eq,bt];rfl
theorem x9(l:Bs)(n:Nat):(bs l).extract n (bs l).size=bs (l.drop n):=by
 rw[Lib.extract_eq,bt,cj];unfold bs;rw[List.take_of_length_le (by simp)]
theorem uw{a b:Bs}:bs a=bs b↔a=b:=⟨fun h=>by rw[←bt a,←bt b,h],fun h=>by rw[h]⟩
theorem qU(a b:Bs):bs a++bs b=bs (a++b):=by
 apply ByteArray.ext;apply Array.ext';simp[bs]
theorem eo(s:ByteArray)(k:Nat)(h:k<s.size):s.data.toList[k]? = some (s[k]'h):=by
 have h1:s.data.toList.length=s.size:=Lib.size_eq s;rw[List.getElem?_eq_getElem (by omega)];rfl
end Go.Proofs.YtcbahpllcfbkmaaGreatDoor
