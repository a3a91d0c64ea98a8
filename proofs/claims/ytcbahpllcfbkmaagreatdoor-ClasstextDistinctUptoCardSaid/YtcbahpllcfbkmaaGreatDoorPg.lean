import Derived.Test.YtcbahpllcfbkmaaGreatDoorIwk
import Derived.Test.YtcbahpllcfbkmaaGreatDoorIt1
import Derived.Test.YtcbahpllcfbkmaaGreatDoorSha
import Derived.Test.YtcbahpllcfbkmaaGreatDoorBl2
import Derived.Test.YtcbahpllcfbkmaaGreatDoorToks7
import Derived.Test.YtcbahpllcfbkmaaGreatDoorSpan
import Derived.Test.YtcbahpllcfbkmaaGreatDoorData
set_option linter.unusedVariables false
set_option linter.unusedSimpArgs false
set_option linter.unusedSectionVars false
namespace Go.Proofs.YtcbahpllcfbkmaaGreatDoor
open Go.RowKit
theorem yz:Fo fun x _ _=>fY x≤1200000:=by
 intro x d bd h;have hb:=cA x;exact⟨fun y hy=>by have:=d6 hy;omega,fun y hy=>by have:=d6 hy;omega⟩
theorem xK(σ:List (List V))(hb:aB σ.length σ=true):Vst (fun(_:Unit) x d bd=>(tK x d bd,())) (fun x _ _=>fY x≤1200000) (.fn 58 []) (fun _ τ=>τ=σ) σ.length where
 len:=fun s τ h=>by rw[h]
 bb:=fun s τ h=>by rw[h];exact hb
 und:=rfl
 val:=.inl ⟨_,_,rfl⟩
 call:=fun s τ x d bd h hp l=>by
  subst h;exact(wu x d bd hp (τ++l)).mono fun o σ' ⟨e1,e2⟩=>⟨τ,rfl,e2,e1⟩
theorem sQ(l:List It)(hl:bN l≤1100000)(σ:List (List V)):Fun G 38 [.d (fr l)] σ (aZ (.d (az (eM l))) σ):=by
 refine ay Tryz.func38 k38 rfl fun hb hw=>?_;unfold c38 eM;simp -dsimp -implicitDefEqProofs only[aw,ah,V.copy,V.lend,V.lend1,V.cells,V.boxable,over,ak,ae,ac,ai,V.plain,Nat.reduceLeDiff,cond_true,cond_false,implies_true,eq_self,ne_eq,reduceIte,reduceCtorEq,Nat.reduceBEq,Nat.reduceLT,Nat.reduceEqDiff,Nat.reduceAdd,Nat.reduceSub,Nat.reduceMul];refine aq (vA l (by have:=uk l;omega) _) ?_;by_cases h:64<cm l
 ·have h':(64:Int)<(cm l:Int):=by omega
  rw[if_pos h];simp -dsimp -implicitDefEqProofs only[aw,ah,V.copy,V.lend,V.lend1,V.cells,V.boxable,over,ak,ae,ac,ai,V.plain,Nat.reduceLeDiff,cond_true,cond_false,implies_true,eq_self,ne_eq,reduceIte,reduceCtorEq,Nat.reduceBEq,Nat.reduceLT,Nat.reduceEqDiff,Nat.reduceAdd,Nat.reduceSub,Nat.reduceMul,decide_eq_true h'];first|exact aj hb rfl rfl List.take_length ⟨rfl,rfl⟩|exact aj hb rfl rfl List.take_left ⟨rfl,rfl⟩|(trace_state;fail "fin")
 ·have h':¬(64:Int)<(cm l:Int):=by omega
  rw[if_neg h];simp -dsimp -implicitDefEqProofs only[aw,ah,V.copy,V.lend,V.lend1,V.cells,V.boxable,over,ak,ae,ac,ai,V.plain,Nat.reduceLeDiff,cond_true,cond_false,implies_true,eq_self,ne_eq,reduceIte,reduceCtorEq,Nat.reduceBEq,Nat.reduceLT,Nat.reduceEqDiff,Nat.reduceAdd,Nat.reduceSub,Nat.reduceMul,decide_eq_false h'];have:=yB _ _ yz _ l (by omega) 0 [] _ _ (xK σ hb) (fun x hx=>by have:=d6 hx;omega) (by omega) (by simp;omega) () σ rfl;refine fK this ?_;rintro o σ' ⟨τ,rfl,rfl,rfl⟩;rw[ep,List.append_nil];have e:(wks (fun(_:Unit) x d bd=>(tK x d bd,())) l 0 [] ()).1=rvl l 0:=sR l 0 [];rw[e]
  simp -dsimp -implicitDefEqProofs only[aw,ah,V.copy,V.lend,V.lend1,V.cells,V.boxable,over,ak,ae,ac,ai,V.plain,Nat.reduceLeDiff,cond_true,cond_false,implies_true,eq_self,ne_eq,reduceIte,reduceCtorEq,Nat.reduceBEq,Nat.reduceLT,Nat.reduceEqDiff,Nat.reduceAdd,Nat.reduceSub,Nat.reduceMul];first|exact aj hb rfl rfl List.take_length ⟨rfl,rfl⟩|exact aj hb rfl rfl List.take_left ⟨rfl,rfl⟩|(trace_state;fail "fin")
inductive PR where
 | out
 | bad (e:Int) (r:List Tok)
 | ok (e:Ex) (r:List Tok)
def PR.bind(x:PR)(f:Ex→List Tok→PR):PR:=match x with
 | .out=>.out
 | .bad e r=>.bad e r
 | .ok e r=>f e r
inductive PK where
 | W
 | I
 | L (k:Nat)
 | Lp (k:Nat) (a:Ex)
 | In (a:Ex)
 | Ip (args:List Ex)
 | U
 | P
def fc:List Tok→PR
 | []=>.bad 6 []
 | t::r=>.bad 5 (t::r)
def al(c:UInt8):ByteArray:=⟨#[c]⟩
def bO(c d:UInt8):ByteArray:=⟨#[c,d]⟩
def acc(m:ByteArray):List Tok→Option (List Tok)
 | []=>none
 | t::r=>if dG t=true∧(t.kind=4∨t.kind=2)∧t.text=m then some r else none
def cD(o:Int)(l:List Ex):Ex:=.mk o 0 ⟨#[]⟩ l
def cj:List (ByteArray×Int×Nat):=[(bO 61 62,21,2),(bO 124 124,20,3),(bO 38 38,19,4),(al 124,11,5),(al 94,12,6),(al 38,10,7),(bO 61 61,15,8),(bO 33 61,16,8),(al 60,17,9),(bO 60 61,18,9),(bO 60 60,13,10),(bO 62 62,14,10),(al 43,7,11),(al 45,8,11),(al 42,9,12)]
def iV:List (ByteArray×Int×Nat)→Nat→List Tok→Option (Int×List Tok)
 | [],_,_=>none
 | b::l,k,r=>if b.2.2=k then(match acc b.1 r with|some r1=>some (b.2.1,r1)|none=>iV l k r)else iV l k r
def iq(k:Nat)(r:List Tok):Option (Int×Bool×List Tok):=match iV cj k r with
 | some (o,r1)=>some (o,false,r1)
 | none=>if k=9 then(match acc (al 62) r with
  | some r1=>some (17,true,r1)
  | none=>match acc (bO 62 61) r with
   | some r1=>some (18,true,r1)
   | none=>none)else none
def cu:ByteArray:=⟨#[105,110,115,105,100,101]⟩
def lY:ByteArray:=⟨#[115,117,109]⟩
def ip:ByteArray:=⟨#[111,110,101,115]⟩
def ir:List Tok→Option (ByteArray×List Tok)
 | []=>none
 | t::r=>if dG t=true∧t.kind=1 then some (t.text,r)else none
def kf:List Tok→Option (Int×List Tok)
 | []=>none
 | t::r=>if dG t=true∧t.kind=3 then some (t.num,r)else none
def nW(n:Int):ByteArray:=⟨(Lib.decDigits n.toNat).toArray⟩
def ib(s:ByteArray)(n:Int):ByteArray:=s++(al 91++(nW n++al 93))
def fp(rec:PK→List Tok→PR)(r:List Tok):PR:=match acc (al 40) r with
 | some r1=>(rec .W r1).bind fun e r2=>match acc (al 41) r2 with
  | some r3=>.ok e r3
  | none=>fc r2
 | none=>match kf r with
  | some (n,r1)=>if 65535<n then .bad 3 r else .ok (.mk 1 n ⟨#[]⟩ []) r1
  | none=>match ir r with
   | none=>fc r
   | some (s,r1)=>match (if s=lY then acc (al 40) r1 else none)with
    | some r2=>match ir r2 with
     | none=>fc r2
     | some (a,r3)=>match acc (al 41) r3 with
      | some r4=>.ok (.mk 24 0 a []) r4
      | none=>fc r3
    | none=>match (if s=ip then acc (al 40) r1 else none)with
     | some r2=>(rec .W r2).bind fun e r3=>match acc (al 41) r3 with
      | some r4=>.ok (cD 25 [e]) r4
      | none=>fc r3
     | none=>match acc (al 91) r1 with
      | some r2=>(rec .W r2).bind fun e r3=>match acc (al 93) r3 with
       | some r4=>.ok (.mk 3 0 s [e]) r4
       | none=>fc r3
      | none=>match acc (al 64) r1 with
       | some r2=>match kf r2 with
        | none=>fc r2
        | some (n,r3)=>if 65535<n then .bad 3 r2 else .ok (.mk 2 0 (ib s n) []) r3
       | none=>.ok (.mk 2 0 s []) r1
def bG(rec:PK→List Tok→PR):PK→List Tok→PR
 | .W,r=>(rec .I r).bind fun c r1=>match acc (al 63) r1 with
  | none=>.ok c r1
  | some r2=>(rec .W r2).bind fun a r3=>match acc (al 58) r3 with
   | none=>fc r3
   | some r4=>(rec .W r4).bind fun b r5=>.ok (cD 22 [c,a,b]) r5
 | .I,r=>(rec (.L 3) r).bind fun a r1=>match acc (bO 61 62) r1 with
  | none=>.ok a r1
  | some r2=>(rec .I r2).bind fun b r3=>.ok (cD 21 [a,b]) r3
 | .L k,r=>if 12<k then rec .U r else(rec (.L (k+1)) r).bind fun a r1=>rec (.Lp k a) r1
 | .Lp k a,r=>match (if k=9 then acc cu r else none)with
  | some r1=>(rec (.In a) r1).bind fun b r2=>rec (.Lp k b) r2
  | none=>match iq k r with
   | none=>.ok a r
   | some (o,ex,r1)=>(rec (.L (k+1)) r1).bind fun c r2=>rec (.Lp k (if ex then cD o [c,a]else cD o [a,c])) r2
 | .In a,r=>match acc (al 123) r with
  | none=>fc r
  | some r1=>rec (.Ip [a]) r1
 | .Ip args,r=>(rec .W r).bind fun lo r1=>match acc (bO 46 46) r1 with
  | none=>fc r1
  | some r2=>(rec .W r2).bind fun hi r3=>match acc (al 44) r3 with
   | some r4=>rec (.Ip (args++[lo,hi])) r4
   | none=>match acc (al 125) r3 with
    | some r5=>.ok (cD 23 (args++[lo,hi])) r5
    | none=>fc r3
 | .U,r=>match acc (al 33) r with
  | some r1=>(rec .U r1).bind fun a r2=>.ok (cD 4 [a]) r2
  | none=>match acc (al 126) r with
   | some r1=>(rec .U r1).bind fun a r2=>.ok (cD 5 [a]) r2
   | none=>match acc (al 45) r with
    | some r1=>(rec .U r1).bind fun a r2=>.ok (cD 6 [a]) r2
    | none=>rec .P r
 | .P,r=>fp rec r
def gc:Nat→PK→List Tok→PR
 | 0,_,_=>.out
 | n+1,k,r=>bG (gc n) k r
end Go.Proofs.YtcbahpllcfbkmaaGreatDoor
