import Derived.Test.YtcbahpllcfbkmaaGreatDoorIwk
import Derived.Test.YtcbahpllcfbkmaaGreatDoorGrow
import Derived.Test.YtcbahpllcfbkmaaGreatDoorSha
import Derived.Test.YtcbahpllcfbkmaaGreatDoorBl2
import Derived.Test.YtcbahpllcfbkmaaGreatDoorToks7
import Derived.Test.YtcbahpllcfbkmaaGreatDoorSpan
import Derived.Test.YtcbahpllcfbkmaaGreatDoorData
import Derived.Test.YtcbahpllcfbkmaaGreatDoorNames2
set_option linter.unusedVariables false
set_option linter.unusedSimpArgs false
set_option linter.unusedSectionVars false
namespace Go.Proofs.YtcbahpllcfbkmaaGreatDoor
open Go.RowKit
theorem vo:CF fun x _ _=>eY x≤1200000:=by
 intro x d bd h;have hb:=cm x;exact⟨fun y hy=>by have:=dE hy;omega,fun y hy=>by have:=dE hy;omega⟩
theorem rX(σ:List (List V))(hb:az σ.length σ=true):Vst (fun(_:Unit) x d bd=>(oB x d bd,())) (fun x _ _=>eY x≤1200000) (.fn 58 []) (fun _ τ=>τ=σ) σ.length where
 len:=fun s τ h=>by rw[h]
 bb:=fun s τ h=>by rw[h];exact hb
 und:=rfl
 val:=.inl ⟨_,_,rfl⟩
 call:=fun s τ x d bd h hp l=>by
  subst h;exact(rR x d bd hp (τ++l)).mono fun o σ' ⟨e1,e2⟩=>⟨τ,rfl,e2,e1⟩
theorem j5(l:List It)(hl:bq l≤1100000)(σ:List (List V)):Fun G 38 [.d (dv l)] σ (a7 (.d (ay (cA l))) σ):=by
 refine ax Tryz.func38 k38 rfl fun hb hw=>?_;unfold c38 cA;simp -dsimp -implicitDefEqProofs only[aw,ah,V.copy,V.lend,V.lend1,V.cells,V.boxable,over,ak,ae,ac,ai,V.plain,Nat.reduceLeDiff,cond_true,cond_false,implies_true,eq_self,ne_eq,reduceIte,reduceCtorEq,Nat.reduceBEq,Nat.reduceLT,Nat.reduceEqDiff,Nat.reduceAdd,Nat.reduceSub,Nat.reduceMul];refine an (rc l (by have:=mG l;omega) _) ?_;by_cases h:64<bN l
 ·have h':(64:Int)<(bN l:Int):=by omega
  rw[if_pos h];simp -dsimp -implicitDefEqProofs only[aw,ah,V.copy,V.lend,V.lend1,V.cells,V.boxable,over,ak,ae,ac,ai,V.plain,Nat.reduceLeDiff,cond_true,cond_false,implies_true,eq_self,ne_eq,reduceIte,reduceCtorEq,Nat.reduceBEq,Nat.reduceLT,Nat.reduceEqDiff,Nat.reduceAdd,Nat.reduceSub,Nat.reduceMul,decide_eq_true h'];first|exact aj hb rfl rfl List.take_length ⟨rfl,rfl⟩|exact aj hb rfl rfl List.take_left ⟨rfl,rfl⟩|(trace_state;fail "fin")
 ·have h':¬(64:Int)<(bN l:Int):=by omega
  rw[if_neg h];simp -dsimp -implicitDefEqProofs only[aw,ah,V.copy,V.lend,V.lend1,V.cells,V.boxable,over,ak,ae,ac,ai,V.plain,Nat.reduceLeDiff,cond_true,cond_false,implies_true,eq_self,ne_eq,reduceIte,reduceCtorEq,Nat.reduceBEq,Nat.reduceLT,Nat.reduceEqDiff,Nat.reduceAdd,Nat.reduceSub,Nat.reduceMul,decide_eq_false h'];have:=tu _ _ vo _ l (by omega) 0 [] _ _ (rX σ hb) (fun x hx=>by have:=dE hx;omega) (by omega) (by simp;omega) () σ rfl;refine ed this ?_;rintro o σ' ⟨τ,rfl,rfl,rfl⟩;rw[dq,List.append_nil];have e:(wks (fun(_:Unit) x d bd=>(oB x d bd,())) l 0 [] ()).1=rvl l 0:=oO l 0 [];rw[e]
  simp -dsimp -implicitDefEqProofs only[aw,ah,V.copy,V.lend,V.lend1,V.cells,V.boxable,over,ak,ae,ac,ai,V.plain,Nat.reduceLeDiff,cond_true,cond_false,implies_true,eq_self,ne_eq,reduceIte,reduceCtorEq,Nat.reduceBEq,Nat.reduceLT,Nat.reduceEqDiff,Nat.reduceAdd,Nat.reduceSub,Nat.reduceMul];first|exact aj hb rfl rfl List.take_length ⟨rfl,rfl⟩|exact aj hb rfl rfl List.take_left ⟨rfl,rfl⟩|(trace_state;fail "fin")
inductive PR where
 | out
 | bad (e:Int) (r:List Tok)
 | ok (e:Ex) (r:List Tok)
def PR.bind(x:PR)(f:Ex→List Tok→PR):PR:=match x with
 | .out=>.out
 | .bad e r=>.bad e r
 | .ok e r=>f e r
inductive PK where
 | W
 | I
 | L (k:Nat)
 | Lp (k:Nat) (a:Ex)
 | In (a:Ex)
 | Ip (args:List Ex)
 | U
 | P
def fS:List Tok→PR
 | []=>.bad 6 []
 | t::r=>.bad 5 (t::r)
def aR(c:UInt8):ByteArray:=⟨#[c]⟩
def dW(c d:UInt8):ByteArray:=⟨#[c,d]⟩
def acc(m:ByteArray):List Tok→Option (List Tok)
 | []=>none
 | t::r=>if xL t=true∧(t.kind=4∨t.kind=2)∧t.text=m then some r else none
def ic(o:Int)(l:List Ex):Ex:=.mk o 0 ⟨#[]⟩ l
def dU:List (ByteArray×Int×Nat):=[(dW 61 62,21,2),(dW 124 124,20,3),(dW 38 38,19,4),(aR 124,11,5),(aR 94,12,6),(aR 38,10,7),(dW 61 61,15,8),(dW 33 61,16,8),(aR 60,17,9),(dW 60 61,18,9),(dW 60 60,13,10),(dW 62 62,14,10),(aR 43,7,11),(aR 45,8,11),(aR 42,9,12)]
def tP:List (ByteArray×Int×Nat)→Nat→List Tok→Option (Int×List Tok)
 | [],_,_=>none
 | b::l,k,r=>if b.2.2=k then(match acc b.1 r with|some r1=>some (b.2.1,r1)|none=>tP l k r)else tP l k r
def A3(k:Nat)(r:List Tok):Option (Int×Bool×List Tok):=match tP dU k r with
 | some (o,r1)=>some (o,false,r1)
 | none=>if k=9 then(match acc (aR 62) r with
  | some r1=>some (17,true,r1)
  | none=>match acc (dW 62 61) r with
   | some r1=>some (18,true,r1)
   | none=>none)else none
def mS:ByteArray:=⟨#[105,110,115,105,100,101]⟩
def Aj:ByteArray:=⟨#[115,117,109]⟩
def tS:ByteArray:=⟨#[111,110,101,115]⟩
def yU:List Tok→Option (ByteArray×List Tok)
 | []=>none
 | t::r=>if xL t=true∧t.kind=1 then some (t.text,r)else none
def Bl:List Tok→Option (Int×List Tok)
 | []=>none
 | t::r=>if xL t=true∧t.kind=3 then some (t.num,r)else none
def pX(n:Int):ByteArray:=⟨(Lib.decDigits n.toNat).toArray⟩
def fU(s:ByteArray)(n:Int):ByteArray:=s++(aR 91++(pX n++aR 93))
def Br(rec:PK→List Tok→PR)(r:List Tok):PR:=match acc (aR 40) r with
 | some r1=>(rec .W r1).bind fun e r2=>match acc (aR 41) r2 with
  | some r3=>.ok e r3
  | none=>fS r2
 | none=>match Bl r with
  | some (n,r1)=>if 65535<n then .bad 3 r else .ok (.mk 1 n ⟨#[]⟩ []) r1
  | none=>match yU r with
   | none=>fS r
   | some (s,r1)=>match (if s=Aj then acc (aR 40) r1 else none)with
    | some r2=>match yU r2 with
     | none=>fS r2
     | some (a,r3)=>match acc (aR 41) r3 with
      | some r4=>.ok (.mk 24 0 a []) r4
      | none=>fS r3
    | none=>match (if s=tS then acc (aR 40) r1 else none)with
     | some r2=>(rec .W r2).bind fun e r3=>match acc (aR 41) r3 with
      | some r4=>.ok (ic 25 [e]) r4
      | none=>fS r3
     | none=>match acc (aR 91) r1 with
      | some r2=>(rec .W r2).bind fun e r3=>match acc (aR 93) r3 with
       | some r4=>.ok (.mk 3 0 s [e]) r4
       | none=>fS r3
      | none=>match acc (aR 64) r1 with
       | some r2=>match Bl r2 with
        | none=>fS r2
        | some (n,r3)=>if 65535<n then .bad 3 r2 else .ok (.mk 2 0 (fU s n) []) r3
       | none=>.ok (.mk 2 0 s []) r1
def BP(rec:PK→List Tok→PR):PK→List Tok→PR
 | .W,r=>(rec .I r).bind fun c r1=>match acc (aR 63) r1 with
  | none=>.ok c r1
  | some r2=>(rec .W r2).bind fun a r3=>match acc (aR 58) r3 with
   | none=>fS r3
   | some r4=>(rec .W r4).bind fun b r5=>.ok (ic 22 [c,a,b]) r5
 | .I,r=>(rec (.L 3) r).bind fun a r1=>match acc (dW 61 62) r1 with
  | none=>.ok a r1
  | some r2=>(rec .I r2).bind fun b r3=>.ok (ic 21 [a,b]) r3
 | .L k,r=>if 12<k then rec .U r else(rec (.L (k+1)) r).bind fun a r1=>rec (.Lp k a) r1
 | .Lp k a,r=>match (if k=9 then acc mS r else none)with
  | some r1=>(rec (.In a) r1).bind fun b r2=>rec (.Lp k b) r2
  | none=>match A3 k r with
   | none=>.ok a r
   | some (o,ex,r1)=>(rec (.L (k+1)) r1).bind fun c r2=>rec (.Lp k (if ex then ic o [c,a]else ic o [a,c])) r2
 | .In a,r=>match acc (aR 123) r with
  | none=>fS r
  | some r1=>rec (.Ip [a]) r1
 | .Ip args,r=>(rec .W r).bind fun lo r1=>match acc (dW 46 46) r1 with
  | none=>fS r1
  | some r2=>(rec .W r2).bind fun hi r3=>match acc (aR 44) r3 with
   | some r4=>rec (.Ip (args++[lo,hi])) r4
   | none=>match acc (aR 125) r3 with
    | some r5=>.ok (ic 23 (args++[lo,hi])) r5
    | none=>fS r3
 | .U,r=>match acc (aR 33) r with
  | some r1=>(rec .U r1).bind fun a r2=>.ok (ic 4 [a]) r2
  | none=>match acc (aR 126) r with
   | some r1=>(rec .U r1).bind fun a r2=>.ok (ic 5 [a]) r2
   | none=>match acc (aR 45) r with
    | some r1=>(rec .U r1).bind fun a r2=>.ok (ic 6 [a]) r2
    | none=>rec .P r
 | .P,r=>Br rec r
def yJ:Nat→PK→List Tok→PR
 | 0,_,_=>.out
 | n+1,k,r=>BP (yJ n) k r
def PK.cost:PK→Nat
 | .W=>15
 | .I=>14
 | .L k=>3+(13-k)
 | .Lp _ _=>1
 | .In _=>1
 | .Ip _=>16
 | .U=>2
 | .P=>1
def eq(k:PK)(r:List Tok):Nat:=40*r.length+k.cost
def par(k:PK)(r:List Tok):PR:=yJ (40*r.length+20) k r
def eI(o:Int):Option (ByteArray×Nat):=(dU.find? fun b=>decide (b.2.1=o)).map fun b=>(b.1,b.2.2)
def r9(o:Int):Nat:=match eI o with
 | some (_,l)=>l
 | none=>if o=22 then 1 else if o=23 then 9 else if o=4∨o=5∨o=6 then 13 else 14
def tm(m:ByteArray):Tok:=⟨4,0,m,1⟩
def tw(m:ByteArray):Tok:=⟨2,0,m,1⟩
def tn(s:ByteArray):Tok:=⟨1,0,s,1⟩
def td(n:Int):Tok:=⟨3,n,pX n,1⟩
def bO(s:ByteArray):Int:=(((eG s 91).data.toList.headD 0).toNat:Int)-48
def uG(s:ByteArray):List Tok:=if dj s=true then[tn (cI s 91),tm (aR 64),td (bO s)]else[tn s]
end Go.Proofs.YtcbahpllcfbkmaaGreatDoor
