import Derived.Test.YtcbahpllcfbkmaaGreatDoorNames
import Derived.Lib.Bytealg
import Derived.Deep.RegionHeld3
import Derived.BigRegion
import Derived.Laws.Externs
import Derived.Deep.Light
import Derived.Lib.IndexLaws
import Derived.Lib.ItoaNum
import Derived.Test.YtcbahpllcfbkmaaGreatDoorA20
import Derived.Lib.ParseIntB
import Derived.Lib.ParseIntBCases
set_option linter.unusedVariables false
set_option linter.unusedSimpArgs false
set_option linter.unusedSectionVars false
namespace Go.Proofs.YtcbahpllcfbkmaaGreatDoor
open Go.RowKit
set_option maxRecDepth 100000 in
theorem il(s:ByteArray)(c:Int)(w:World):
 Calls Tryz.prog 178 #[.string s,.int .u8 c] w fun e w'=>e=.returned (.int .i64 (Lib.indexByte s.data.toList c.toNat.toUInt8))∧w=w':=by
 have hx:∀w,(callFunc 182 #[.string s,.int .u8 c]).run Tryz.prog w=.ok (.value (.int .i64 (Lib.indexByte s.data.toList c.toNat.toUInt8))) w:=fun w=>by
  rw[run_callFunc_extern Tryz.func182 (by kernel_rfl) (by kernel_rfl) (by kernel_rfl) (e:=Extern.BytealgIndexByte.indexByte) (by kernel_rfl),Lib.run_indexByteString];rfl
 go_enter Tryz.func178,Tryz.ntmps178;go_wp2_with fail;go_ret;exact⟨rfl,rfl⟩
theorem xC{s:ByteArray}{c:UInt8}(h:([c]==s.toList)=true):Lib.indexByte s.data.toList c=0:=by
 rw[ByteArray.toList_eq]at h;rw[←(beq_iff_eq.1 h)];simp[Lib.indexByte]
set_option maxRecDepth 100000 in
theorem sm(s:ByteArray)(c:UInt8)(w:World):
 Calls Tryz.prog 172 #[.string s,.string ⟨#[c]⟩] w fun e w'=>e=.returned (.int .i64 (Lib.indexByte s.data.toList c))∧w=w':=by
 by_cases he:([c]==s.toList)=true
 ·have h0:=xC he;have H0:=Lib.hid h0;clear h0;go_enter Tryz.func172,Tryz.ntmps172;go_wp2_with (go_at_call 178;refine(il _ _ _).mono ?_;rintro e w' ⟨rfl,rfl⟩);go_ret;exact⟨ce H0.out.symm,rfl⟩
 ·have he':([c]==s.toList)=false:=by simpa using he
  clear he;go_enter Tryz.func172,Tryz.ntmps172;go_wp2_with (go_at_call 178;refine(il _ _ _).mono ?_;rintro e w' ⟨rfl,rfl⟩);go_ret;exact⟨ce (congrArg (Lib.indexByte s.data.toList) (by rfl)),rfl⟩
def cS(s:ByteArray)(c:UInt8):ByteArray:=if Lib.indexByte s.data.toList c = -1 then s else s.extract 0 (Lib.indexByte s.data.toList c).toNat
def fg(s:ByteArray)(c:UInt8):ByteArray:=if Lib.indexByte s.data.toList c = -1 then⟨#[]⟩else s.extract ((Lib.indexByte s.data.toList c).toNat+1) s.size
def fD(s:ByteArray)(c:UInt8):Bool:=decide (0≤Lib.indexByte s.data.toList c)
theorem nc{s:ByteArray}{c:UInt8}{o:Nat}(h:Lib.indexByte s.data.toList c=o):o<s.size:=by
 have:=(Lib.indexByte_some h).1;rw[Lib.size_eq];exact(List.getElem?_eq_some_iff.1 this).1
set_option maxRecDepth 100000 in
theorem wD(s:ByteArray)(c:UInt8)(w:World)(hs:s.size≤9223372036854775807):
 Calls Tryz.prog 160 #[.string s,.string ⟨#[c]⟩] w fun e w'=>e=.returned (.tuple #[.string (cS s c),.string (fg s c),.bool (fD s c)])∧Ext w w':=by
 have h1:=Lib.indexByte_ge s.data.toList c;unfold cS fg fD;have hc:=sm s c;by_cases hi:Lib.indexByte s.data.toList c = -1
 ·rw[hi]at hc ⊢;have HC:=Lib.hid hc;clear hc;clear h1 hi;go_enter Tryz.func160,Tryz.ntmps160;go_wp2_with (go_at_call 172;refine(HC.out _).mono ?_;rintro e w' ⟨rfl,rfl⟩);go_ret3;exact⟨rfl,Ext.refl _⟩
 ·obtain⟨o,ho⟩:=Int.eq_ofNat_of_zero_le (a:=Lib.indexByte s.data.toList c) (by omega);have hlt:=nc ho;rw[ho]at hc ⊢;have HC:=Lib.hid hc;clear hc;clear h1 hi;have HO:=Lib.hid ho;clear ho;have e1:IntKind.i64.wrap ((o:Int)+1)=(o:Int)+1:=IntWalk.i64_in _ (by omega);have e2:((o:Int)+1).toNat=o+1:=by omega
  go_enter Tryz.func160,Tryz.ntmps160;go_wp2_with (go_at_call 172;refine(HC.out _).mono ?_;rintro e w' ⟨rfl,rfl⟩);go_quiet (fail);go_wp2_with fail;go_ret3;exact⟨rfl,(Ext.refl w).drewN _⟩
theorem rm(s:ByteArray)(c:UInt8)(w:World)(hs:s.size≤9223372036854775807):
 Calls Tryz.prog 144 #[.string s,.string ⟨#[c]⟩] w fun e w'=>e=.returned (.tuple #[.string (cS s c),.string (fg s c),.bool (fD s c)])∧Ext w w':=by
 go_enter Tryz.func144,Tryz.ntmps144;go_wp2_with (go_at_call 160;refine(wD _ _ _ hs).mono ?_;rintro e w' ⟨rfl,hx⟩);go_ret3;exact⟨rfl,by assumption⟩
theorem rH(s:ByteArray)(c:UInt8):(cS s c).size≤s.size:=by
 unfold cS;split
 ·exact Nat.le_refl _
 ·simp;omega
theorem re(s:ByteArray)(c:UInt8):(fg s c).size≤s.size:=by
 unfold fg;split
 ·exact Nat.zero_le _
 ·simp
def jG(t:ByteArray):Bool:=if h:t.size=2 then decide ((t[1]'(by omega)).toNat=93)&&decide (48≤(t[0]'(by omega)).toNat)&&decide ((t[0]'(by omega)).toNat<56)else false
def dF(s:ByteArray):Bool:=fD s 91&&aQ (cS s 91)&&jG (fg s 91)
def nV(eb:Bool)(w:World)(e:Ending)(w':World):Prop:=∃a i,e=.returned (.tuple #[.string a,.int .i64 i,.bool eb])∧Ext w w'
theorem hU{eb b:Bool}{w w':World}{a:ByteArray}{i:Int}(h:b=eb)(hx:Ext w w'):nV eb w (.returned (.tuple #[.string a,.int .i64 i,.bool b])) w':=⟨a,i,by rw[h],hx⟩
theorem js{t:ByteArray}(h:¬t.size=2):jG t=false:=by unfold jG;rw[dif_neg h]
theorem fG{t:ByteArray}(h:t.size=2):jG t=(decide ((t[1]'(by omega)).toNat=93)&&decide (48≤(t[0]'(by omega)).toNat)&&decide ((t[0]'(by omega)).toNat<56)):=by unfold jG;rw[dif_pos h]
set_option maxRecDepth 100000 in
theorem om(s:ByteArray)(w:World)(hs:s.size≤9223372036854775807)(hk:jz w):
 Calls Tryz.prog 155 #[.string s] w (nV (dF s) w):=by
 have hA:=rH s 91;have hB:=re s 91;have hcut:=fun w=>rm s 91 w hs;have hq:dF s=(fD s 91&&aQ (cS s 91)&&jG (fg s 91)):=rfl;generalize dF s=eb at hq ⊢;generalize cS s 91=a at *;generalize fg s 91=b at *;generalize fD s 91=ok at *;have HQ:=Lib.hid hq;clear hq;have HK:=Lib.hid hk;clear hk;have HC:=Lib.hid hcut;clear hcut;by_cases hz:b.size=2
 ·have k1:1<b.size:=by omega
  have k0:0<b.size:=by omega
  have HZ:=Lib.hid hz;clear hz;have hz2:((b.size:Int) != 2)=false:=by rw[HZ.out];rfl
  go_enter Tryz.func155,Tryz.ntmps155;go_wp2_with (first|(go_at_call 144;refine(HC.out _).mono ?_;rintro e w' ⟨rfl,hx⟩)|(go_at_call 65;refine(eS _ _ (by omega) (HK.out.ext (by assumption))).mono ?_;rintro e w' ⟨rfl,hy⟩));all_goals (try (go_quiet (fail);go_wp2_with fail))
  all_goals go_ret3
  all_goals (go_light;refine hU ?_ (by first|exact(hx.trans hy).drewN _|exact hx.trans hy|exact hx);rw[HQ.out];first|(simp[*];done)|(rw[fG HZ.out];simp[*];done)|(rw[fG HZ.out,Bool.eq_iff_iff];simp[*];omega))
 ·have hc:=js hz;have HH:=Lib.hid hc;clear hc;have hz2:((b.size:Int) != 2)=true:=by rw[bne_iff_ne];omega
  clear hz;go_enter Tryz.func155,Tryz.ntmps155;go_wp2_with (first|(go_at_call 144;refine(HC.out _).mono ?_;rintro e w' ⟨rfl,hx⟩)|(go_at_call 65;refine(eS _ _ (by omega) (HK.out.ext (by assumption))).mono ?_;rintro e w' ⟨rfl,hy⟩));all_goals go_ret3
  all_goals (go_light;refine hU ?_ (by first|exact hx.trans hy|exact hx);rw[HQ.out];first|(simp[*];done)|(rw[HH.out];simp;done))
abbrev Bs:=List UInt8
def inn(c:UInt8):Bool:=dI c.toNat
def EA(c:UInt8):Bool:=c==32||c==9||c==10
def uN:Nat→Bs→Bs
 | 0,l=>l
 | _+1,[]=>[]
 | k+1,c::r=>if EA c=true then uN k r else if c=47∧r.head? = some 47 then uN k ((c::r).dropWhile (· != 10))else c::r
def BL(l:Bs):Bs:=uN l.length l
def ou:List Bs:=[[40],[41],[123],[125],[91],[93],[44],[59],[58],[46,46],[63],[61],[61,61],[33,61],[60],[60,61],[62],[62,61],[60,60],[62,62],[43],[45],[42],[38],[124],[94],[126],[33],[38,38],[124,124],[45,62],[61,62],[58,61],[58,47],[35,35],[64]]
def Aj:List Bs→Nat→Bs→Nat
 | [],b,_=>b
 | m::r,b,l=>Aj r (if b<m.length∧m.isPrefixOf l=true then m.length else b) l
def Aa(l:Bs):Nat:=Aj ou 0 l
def CJ(l:Bs):Nat:=l.foldl (fun n c=>10*n+(c.toNat-48)) 0
inductive Rd where
 | err (e:Int)
 | tok (kind num:Int) (len:Nat)
def Cq:Bs→Rd
 | []=>.err 5
 | c::r=>
  if d5 c.toNat=true then
   if 16<((c::r).takeWhile inn).length then .err 2
   else .tok (if inB ⟨((c::r).takeWhile inn).toArray⟩ cE=true then 2 else 1) 0 ((c::r).takeWhile inn).length
  else if gj c.toNat=true then
   if(((c::r).takeWhile inn).all fun x=>gj x.toNat)=false∨(1<((c::r).takeWhile inn).length∧c=48)then .err 5
   else if 2147483647<CJ ((c::r).takeWhile inn)then .err 3
   else .tok 3 (CJ ((c::r).takeWhile inn)) ((c::r).takeWhile inn).length
  else if Aa (c::r)=0 then .err 5 else .tok 4 0 (Aa (c::r))
structure Tok where
 kind:Int
 num:Int
 text:ByteArray
 line:Int
def zb(t:Tok):Bool:=
 if t.kind=3 then decide (0≤t.num)&&decide (t.num≤2147483647)&&(t.text.data.toList==Lib.decDigits t.num.toNat)
 else if t.kind=1 then decide (t.num=0)&&aQ t.text
 else if t.kind=2 then decide (t.num=0)&&inB t.text cE
 else if t.kind=4 then decide (t.num=0)&&ou.contains t.text.data.toList
 else false
theorem oQ(d:Nat)(h:d<10):(UInt8.ofNat (48+d)).toNat=48+d:=by
 have:∀d,d<10→(UInt8.ofNat (48+d)).toNat=48+d:=by decide
 exact this d h
def bs(l:Bs):ByteArray:=⟨l.toArray⟩
theorem aY(l:Bs):(bs l).data.toList=l:=by simp[bs]
theorem bT(s:ByteArray):bs s.data.toList=s:=Lib.mk_data s
theorem bS(l:Bs):(bs l).size=l.length:=by rw[Lib.size_eq,aY]
theorem x9(l:Bs)(n:Nat):(bs l).extract 0 n=bs (l.take n):=by rw[Lib.extract_eq,aY];rfl
theorem yS(l:Bs)(n:Nat):(bs l).extract n (bs l).size=bs (l.drop n):=by
 rw[Lib.extract_eq,aY,bS];unfold bs;rw[List.take_of_length_le (by simp)]
theorem jJ{a b:Bs}:bs a=bs b↔a=b:=⟨fun h=>by rw[←aY a,←aY b,h],fun h=>by rw[h]⟩
theorem si(a b:Bs):bs a++bs b=bs (a++b):=by
 apply ByteArray.ext;apply Array.ext';simp[bs]
theorem B8(l:Bs)(i:Nat):(bs l).data.toList[i]? = l[i]? := by rw[aY]
theorem gK(s:ByteArray)(k:Nat)(h:k<s.size):s.data.toList[k]? = some (s[k]'h):=by
 have h1:s.data.toList.length=s.size:=Lib.size_eq s;rw[List.getElem?_eq_getElem (by omega)];rfl
end Go.Proofs.YtcbahpllcfbkmaaGreatDoor
