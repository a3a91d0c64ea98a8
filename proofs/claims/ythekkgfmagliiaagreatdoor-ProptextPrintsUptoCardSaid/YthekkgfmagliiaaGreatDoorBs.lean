import Derived.Test.YthekkgfmagliiaaGreatDoorNames
import Derived.Lib.ItoaNum
import Derived.Test.YthekkgfmagliiaaGreatDoorA20
set_option linter.unusedVariables false
set_option linter.unusedSimpArgs false
set_option linter.unusedSectionVars false
namespace Go.Proofs.YthekkgfmagliiaaGreatDoor
open Go.RowKit
abbrev Bs:=List UInt8
def inn(c:UInt8):Bool:=dy c.toNat
def i8:List Bs:=[[40],[41],[123],[125],[91],[93],[44],[59],[58],[46,46],[63],[61],[61,61],[33,61],[60],[60,61],[62],[62,61],[60,60],[62,62],[43],[45],[42],[38],[124],[94],[126],[33],[38,38],[124,124],[45,62],[61,62],[58,61],[58,47],[35,35],[64]]
structure Tok where
 kind:Int
 num:Int
 text:ByteArray
 line:Int
def Jw(t:Tok):Bool:=
 if t.kind=3 then decide (0≤t.num)&&decide (t.num≤2147483647)&&(t.text.data.toList==Lib.decDigits t.num.toNat)
 else if t.kind=1 then decide (t.num=0)&&bj t.text
 else if t.kind=2 then decide (t.num=0)&&inB t.text cm
 else if t.kind=4 then decide (t.num=0)&&i8.contains t.text.data.toList
 else false
theorem qB(d:Nat)(h:d<10):(UInt8.ofNat (48+d)).toNat=48+d:=by
 have:∀d,d<10→(UInt8.ofNat (48+d)).toNat=48+d:=by decide
 exact this d h
def bs(l:Bs):ByteArray:=⟨l.toArray⟩
theorem bg(l:Bs):(bs l).data.toList=l:=by simp[bs]
theorem bZ(s:ByteArray):bs s.data.toList=s:=Lib.mk_data s
theorem bQ(l:Bs):(bs l).size=l.length:=by rw[Lib.size_eq,bg]
theorem Br(l:Bs)(n:Nat):(bs l).extract 0 n=bs (l.take n):=by rw[Lib.extract_eq,bg];rfl
theorem At(l:Bs)(n:Nat):(bs l).extract n (bs l).size=bs (l.drop n):=by
 rw[Lib.extract_eq,bg,bQ];unfold bs;rw[List.take_of_length_le (by simp)]
theorem jD{a b:Bs}:bs a=bs b↔a=b:=⟨fun h=>by rw[←bg a,←bg b,h],fun h=>by rw[h]⟩
theorem uS(a b:Bs):bs a++bs b=bs (a++b):=by
 apply ByteArray.ext;apply Array.ext';simp[bs]
theorem GE(l:Bs)(i:Nat):(bs l).data.toList[i]? = l[i]? := by rw[bg]
end Go.Proofs.YthekkgfmagliiaaGreatDoor
