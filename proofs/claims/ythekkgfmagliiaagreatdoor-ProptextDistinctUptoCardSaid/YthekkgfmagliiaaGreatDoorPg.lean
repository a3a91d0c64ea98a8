import Derived.Test.YthekkgfmagliiaaGreatDoorBs
import Derived.Test.YthekkgfmagliiaaGreatDoorData
set_option linter.unusedVariables false
set_option linter.unusedSimpArgs false
set_option linter.unusedSectionVars false
namespace Go.Proofs.YthekkgfmagliiaaGreatDoor
open Go.RowKit
inductive PR where
 | out
 | bad (e:Int) (r:List Tok)
 | ok (e:Ex) (r:List Tok)
def PR.bind(x:PR)(f:Ex→List Tok→PR):PR:=match x with
 | .out=>.out
 | .bad e r=>.bad e r
 | .ok e r=>f e r
inductive PK where
 | W
 | I
 | L (k:Nat)
 | Lp (k:Nat) (a:Ex)
 | In (a:Ex)
 | Ip (args:List Ex)
 | U
 | P
def em:List Tok→PR
 | []=>.bad 6 []
 | t::r=>.bad 5 (t::r)
def aj(c:UInt8):ByteArray:=⟨#[c]⟩
def aO(c d:UInt8):ByteArray:=⟨#[c,d]⟩
def acc(m:ByteArray):List Tok→Option (List Tok)
 | []=>none
 | t::r=>if cK t=true∧(t.kind=4∨t.kind=2)∧t.text=m then some r else none
def cj(o:Int)(l:List Ex):Ex:=.mk o 0 ⟨#[]⟩ l
def cv:List (ByteArray×Int×Nat):=[(aO 61 62,21,2),(aO 124 124,20,3),(aO 38 38,19,4),(aj 124,11,5),(aj 94,12,6),(aj 38,10,7),(aO 61 61,15,8),(aO 33 61,16,8),(aj 60,17,9),(aO 60 61,18,9),(aO 60 60,13,10),(aO 62 62,14,10),(aj 43,7,11),(aj 45,8,11),(aj 42,9,12)]
def ir:List (ByteArray×Int×Nat)→Nat→List Tok→Option (Int×List Tok)
 | [],_,_=>none
 | b::l,k,r=>if b.2.2=k then(match acc b.1 r with|some r1=>some (b.2.1,r1)|none=>ir l k r)else ir l k r
def fL(k:Nat)(r:List Tok):Option (Int×Bool×List Tok):=match ir cv k r with
 | some (o,r1)=>some (o,false,r1)
 | none=>if k=9 then(match acc (aj 62) r with
  | some r1=>some (17,true,r1)
  | none=>match acc (aO 62 61) r with
   | some r1=>some (18,true,r1)
   | none=>none)else none
def bU:ByteArray:=⟨#[105,110,115,105,100,101]⟩
def kP:ByteArray:=⟨#[115,117,109]⟩
def gC:ByteArray:=⟨#[111,110,101,115]⟩
def cD:List Tok→Option (ByteArray×List Tok)
 | []=>none
 | t::r=>if cK t=true∧t.kind=1 then some (t.text,r)else none
def dX:List Tok→Option (Int×List Tok)
 | []=>none
 | t::r=>if cK t=true∧t.kind=3 then some (t.num,r)else none
def ta(n:Int):ByteArray:=⟨(Lib.decDigits n.toNat).toArray⟩
def rA(s:ByteArray)(n:Int):ByteArray:=s++(aj 91++(ta n++aj 93))
def dY(rec:PK→List Tok→PR)(r:List Tok):PR:=match acc (aj 40) r with
 | some r1=>(rec .W r1).bind fun e r2=>match acc (aj 41) r2 with
  | some r3=>.ok e r3
  | none=>em r2
 | none=>match dX r with
  | some (n,r1)=>if 65535<n then .bad 3 r else .ok (.mk 1 n ⟨#[]⟩ []) r1
  | none=>match cD r with
   | none=>em r
   | some (s,r1)=>match (if s=kP then acc (aj 40) r1 else none)with
    | some r2=>match cD r2 with
     | none=>em r2
     | some (a,r3)=>match acc (aj 41) r3 with
      | some r4=>.ok (.mk 24 0 a []) r4
      | none=>em r3
    | none=>match (if s=gC then acc (aj 40) r1 else none)with
     | some r2=>(rec .W r2).bind fun e r3=>match acc (aj 41) r3 with
      | some r4=>.ok (cj 25 [e]) r4
      | none=>em r3
     | none=>match acc (aj 91) r1 with
      | some r2=>(rec .W r2).bind fun e r3=>match acc (aj 93) r3 with
       | some r4=>.ok (.mk 3 0 s [e]) r4
       | none=>em r3
      | none=>match acc (aj 64) r1 with
       | some r2=>match dX r2 with
        | none=>em r2
        | some (n,r3)=>if 65535<n then .bad 3 r2 else .ok (.mk 2 0 (rA s n) []) r3
       | none=>.ok (.mk 2 0 s []) r1
def aT(rec:PK→List Tok→PR):PK→List Tok→PR
 | .W,r=>(rec .I r).bind fun c r1=>match acc (aj 63) r1 with
  | none=>.ok c r1
  | some r2=>(rec .W r2).bind fun a r3=>match acc (aj 58) r3 with
   | none=>em r3
   | some r4=>(rec .W r4).bind fun b r5=>.ok (cj 22 [c,a,b]) r5
 | .I,r=>(rec (.L 3) r).bind fun a r1=>match acc (aO 61 62) r1 with
  | none=>.ok a r1
  | some r2=>(rec .I r2).bind fun b r3=>.ok (cj 21 [a,b]) r3
 | .L k,r=>if 12<k then rec .U r else(rec (.L (k+1)) r).bind fun a r1=>rec (.Lp k a) r1
 | .Lp k a,r=>match (if k=9 then acc bU r else none)with
  | some r1=>(rec (.In a) r1).bind fun b r2=>rec (.Lp k b) r2
  | none=>match fL k r with
   | none=>.ok a r
   | some (o,ex,r1)=>(rec (.L (k+1)) r1).bind fun c r2=>rec (.Lp k (if ex then cj o [c,a]else cj o [a,c])) r2
 | .In a,r=>match acc (aj 123) r with
  | none=>em r
  | some r1=>rec (.Ip [a]) r1
 | .Ip args,r=>(rec .W r).bind fun lo r1=>match acc (aO 46 46) r1 with
  | none=>em r1
  | some r2=>(rec .W r2).bind fun hi r3=>match acc (aj 44) r3 with
   | some r4=>rec (.Ip (args++[lo,hi])) r4
   | none=>match acc (aj 125) r3 with
    | some r5=>.ok (cj 23 (args++[lo,hi])) r5
    | none=>em r3
 | .U,r=>match acc (aj 33) r with
  | some r1=>(rec .U r1).bind fun a r2=>.ok (cj 4 [a]) r2
  | none=>match acc (aj 126) r with
   | some r1=>(rec .U r1).bind fun a r2=>.ok (cj 5 [a]) r2
   | none=>match acc (aj 45) r with
    | some r1=>(rec .U r1).bind fun a r2=>.ok (cj 6 [a]) r2
    | none=>rec .P r
 | .P,r=>dY rec r
def fd:Nat→PK→List Tok→PR
 | 0,_,_=>.out
 | n+1,k,r=>aT (fd n) k r
end Go.Proofs.YthekkgfmagliiaaGreatDoor
