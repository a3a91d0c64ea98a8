import Derived.Test.YthekkgfmagliiaaGreatDoorBr8
import Derived.Test.YthekkgfmagliiaaGreatDoorNew
set_option linter.unusedVariables false
set_option linter.unusedSimpArgs false
set_option linter.unusedSectionVars false
namespace Go.Proofs.YthekkgfmagliiaaGreatDoor
open Go.RowKit
theorem rI(e:Ex)(hs:ba e≤1000000)(hd:bG e≤999999)(σ:List (List V)):Fun G 77 [vex e] σ (aB (.d (cj (b5 [2] e))) σ):=
 km Tryz.func77 (by kernel_rfl) (by kernel_rfl) (fun _ _ _ h=>by cases h) fun M bm w vs hG hM hl hr=>match vs,hl with
  | [v],_=>(rd e w v (fL hM (hr 0 (by simp) (by simp))) hs hd).mono fun en w' ⟨u,h1,h2,h3,h4⟩=>by
   obtain⟨cs,h5,-⟩:=fL hM (hr 0 (by simp) (by simp));rw[(no e hs).2.2.2.1]at h2;exact⟨u,h1,h4,.d (pt h2 h3 (lG h5 [] (by simp)))⟩
theorem kw(s:ByteArray)(σ:List (List V)):Fun G 37 [.d (ak s)] σ (aB (.d (.lit (.bool (bj s)))) σ):=
 qj Tryz.func37 (by kernel_rfl) (by kernel_rfl) trivial fun M bm w v hG hM hr=>by
  cases hr with
  | d hr=>cases hr with
   | lit _ h=>exact fy s w (by simp only[ca,maxLen]at h;omega)
inductive Ts where
 | mk (op lo hi:Int) (e:Ex) (name:ByteArray) (args:List Ts)
namespace Ts
def op:Ts→Int|mk o _ _ _ _ _=>o
def lo:Ts→Int|mk _ a _ _ _ _=>a
def hi:Ts→Int|mk _ _ b _ _ _=>b
def ex:Ts→Ex|mk _ _ _ e _ _=>e
def name:Ts→ByteArray|mk _ _ _ _ s _=>s
def args:Ts→List Ts|mk _ _ _ _ _ l=>l
end Ts
mutual
theorem Ts.ind{P:Ts→Prop}(h:∀s:Ts,(∀a,a∈s.args→P a)→P s):∀s,P s
 | .mk o a b e s l=>h (.mk o a b e s l) (Ts.inds h l)
theorem Ts.inds{P:Ts→Prop}(h:∀s:Ts,(∀a,a∈s.args→P a)→P s):∀l:List Ts,∀a,a∈l→P a
 | [],_,ha=>nomatch ha
 | b::r,a,ha=>by
  rcases List.mem_cons.1 ha with e|e
  ·rw[e];exact Ts.ind h b
  ·exact Ts.inds h r a e
end
mutual
def dts:Ts→List D
 | .mk o a b e s l=>[an o,an a,an b,an e.op,an e.num,ak e.name,.sl (e.args.map dex),ak s,.sl (Ai l)]
def Ai:List Ts→List (List D)
 | []=>[]
 | a::r=>dts a::Ai r
end
theorem xi(l:List Ts):Ai l=l.map dts:=by
 induction l with
 | nil=>rfl
 | cons a r ih=>simp only[Ai,ih,List.map_cons]
theorem aW(s:Ts):dts s=[an s.op,an s.lo,an s.hi,an s.ex.op,an s.ex.num,ak s.ex.name,.sl (s.ex.args.map dex),ak s.name,.sl (s.args.map dts)]:=by
 cases s;simp only[dts,xi,Ts.op,Ts.lo,Ts.hi,Ts.ex,Ts.name,Ts.args]
def vts(s:Ts):V:=.agg ((dts s).map V.d)
theorem aq(s:Ts):vts s=.agg [.d (an s.op),.d (an s.lo),.d (an s.hi),.d (an s.ex.op),.d (an s.ex.num),.d (ak s.ex.name),.d (.sl (s.ex.args.map dex)),.d (ak s.name),.d (.sl (s.args.map dts))]:=by
 unfold vts;rw[aW];rfl
theorem li(s:Ts):(dts s).length=9:=by rw[aW];rfl
mutual
def bC:Ts→Nat
 | .mk _ _ _ e _ l=>1+ba e+cQ l
def cQ:List Ts→Nat
 | []=>0
 | a::r=>bC a+cQ r
end
theorem dJ(s:Ts):bC s=1+ba s.ex+cQ s.args:=by cases s;rfl
theorem m6{l:List Ts}{a:Ts}(h:a∈l):bC a≤cQ l:=by
 induction l with
 | nil=>cases h
 | cons b r ih=>
  simp only[cQ];rcases List.mem_cons.1 h with e|e
  ·subst e;omega
  ·have:=ih e;omega
theorem ct{s a:Ts}(h:a∈s.args):bC a<bC s:=by
 have:=m6 h;rw[dJ s];omega
theorem jE(l:List Ts):l.length≤cQ l:=by
 induction l with
 | nil=>simp[cQ]
 | cons b r ih=>
  have:=dJ b;simp only[cQ,List.length_cons];omega
theorem cU(s:Ts):s.args.length<bC s:=by
 have:=jE s.args;rw[dJ s];omega
theorem fK(e:Ex):bG e≤ba e:=by
 induction e using Ex.ind with
 | h o m s l ih=>
 simp only[bG,ba]
 have H:∀(r:List Ex),(∀a,a∈r→a∈l)→cB r≤bF r:=by
  intro r
  induction r with
  | nil=>intro _;simp[cB,bF]
  | cons a r ihr=>
   intro hm;have h1:=ih a (hm a (by simp));have h2:=ihr (fun x hx=>hm x (by simp[hx]));simp only[cB,bF];omega
 have:=H l (fun _ h=>h);omega
mutual
def tsz:Ts→Nat
 | .mk _ _ _ _ _ l=>1+Bx l
def Bx:List Ts→Nat
 | []=>0
 | a::r=>tsz a+Bx r
end
theorem zc(l:List Ts):Bx l=(l.map tsz).sum:=by
 induction l with
 | nil=>rfl
 | cons a r ih=>simp only[Bx,ih,List.map_cons,List.sum_cons]
theorem jI(s:Ts):tsz s=1+(s.args.map tsz).sum:=by cases s;simp only[tsz,zc,Ts.args]
theorem ri(s:Ts):tsz s≤bC s:=by
 induction s using Ts.ind with
 | h s ih=>
 rw[jI,dJ]
 have H:∀l:List Ts,(∀a,a∈l→tsz a≤bC a)→(l.map tsz).sum≤cQ l:=by
  intro l
  induction l with
  | nil=>intro _;simp[cQ]
  | cons a r ihr=>
   intro h;have h1:=h a (by simp);have h2:=ihr (fun x hx=>h x (by simp[hx]));simp only[List.map_cons,List.sum_cons,cQ];omega
 have:=H s.args ih;omega
mutual
def tdp:Ts→Nat
 | .mk _ _ _ _ _ l=>1+gM l
def gM:List Ts→Nat
 | []=>0
 | a::r=>max (tdp a) (gM r)
end
theorem oQ(s:Ts):tdp s=1+gM s.args:=by cases s;rfl
theorem p4{l:List Ts}{a:Ts}(h:a∈l):tdp a≤gM l:=by
 induction l with
 | nil=>cases h
 | cons b r ih=>
  simp only[gM];rcases List.mem_cons.1 h with e|e
  ·subst e;omega
  ·have:=ih e;omega
theorem CG(s:Ts):tdp s≤bC s:=by
 induction s using Ts.ind with
 | h s ih=>
 rw[oQ,dJ]
 have H:∀l:List Ts,(∀a,a∈l→tdp a≤bC a)→gM l≤cQ l:=by
  intro l
  induction l with
  | nil=>intro _;simp[gM]
  | cons a r ihr=>
   intro h;have h1:=h a (by simp);have h2:=ihr (fun x hx=>h x (by simp[hx]));simp only[gM,cQ];omega
 have:=H s.args ih;omega
theorem Nxt.drop1{n0:Nat}{R:am→List (List V)→Prop}{ρ:am}{σ:List (List V)}{a b:List V}(hn:n0≤σ.length)(hb:aC (σ++[a]).length (σ++[a])=true)(hs:aN (σ++[a]).length ρ=true)(hR:R ρ (σ++[a])):Nxt n0 R ρ (σ++[a,b]) .mk:=by
 have e:σ++[a,b]=(σ++[a])++[b]:=by simp
 rw[e];exact Nxt.drop (by rw[List.length_append];omega) hb hs hR
theorem nR(val:Ts→Int)(f:FuncId)(P:Ts→Prop)(hP:∀s,P s→∀a,a∈s.args→P a)(hB:∀s,P s→bC s≤1000000)
 (hf:∀s,P s→∀σ,gK G f [vts s] 3 1 ((s.args.map val).map fun n=>[an n]) [] σ (aB (.d (an (val s))) σ))(s:Ts):
 P s→∀σ,Fun G 101 [vts s,.fn f []] σ (aB (.d (an (val s))) σ):=by
 induction s using Ts.ind with
 | h s ih=>
 intro hs σ;have hbig:=hB s hs;have hln:=cU s;refine ax Tryz.func101 Jb (by simp only[aq];rfl) fun hb hw=>?_;unfold Hi;simp -dsimp -implicitDefEqProofs only[aw,ac,V.copy,V.lend,V.lend1,V.cells,V.boxable,over,al,ah,ae,ai,V.plain,Nat.reduceLeDiff,cond_true,cond_false,implies_true,eq_self,ne_eq,reduceIte,reduceCtorEq,Nat.reduceBEq,Nat.reduceLT,Nat.reduceEqDiff,Nat.reduceAdd,Nat.reduceSub,Nat.reduceMul,aq];refine cX (by omega) ?_;simp -dsimp -implicitDefEqProofs only[aw,ac,V.copy,V.lend,V.lend1,V.cells,V.boxable,over,al,ah,ae,ai,V.plain,Nat.reduceLeDiff,cond_true,cond_false,implies_true,eq_self,ne_eq,reduceIte,reduceCtorEq,Nat.reduceBEq,Nat.reduceLT,Nat.reduceEqDiff,Nat.reduceAdd,Nat.reduceSub,Nat.reduceMul]
 refine bD [1,2,5,13,14,15] (R:=fun(j:Nat) ρ σ'=>ρ=[(1,.fn f []),(2,.ptr σ.length 0),(5,.own 3 1 (((s.args.take j).map val).map fun n=>[an n])),(13,.d (.sl (s.args.map dts))),(14,aU .i64 s.args.length),(15,aU .i64 j)]∧σ'=σ++[[.d (an s.op),.d (an s.lo),.d (an s.hi),.d (an s.ex.op),.d (an s.ex.num),.d (ak s.ex.name),.d (.sl (s.ex.args.map dex)),.d (ak s.name),.d (.sl (s.args.map dts))]]) s.args.length ⟨rfl,rfl⟩ ?_ _;rintro j ρ' σ' hj ⟨rfl,rfl⟩;by_cases hlt:j<s.args.length
 ·simp -dsimp -implicitDefEqProofs only[aw,ac,V.copy,V.lend,V.lend1,V.cells,V.boxable,over,al,ah,ae,ai,V.plain,Nat.reduceLeDiff,cond_true,cond_false,implies_true,eq_self,ne_eq,reduceIte,reduceCtorEq,Nat.reduceBEq,Nat.reduceLT,Nat.reduceEqDiff,Nat.reduceAdd,Nat.reduceSub,Nat.reduceMul,Int.ofNat_lt,hlt,decide_true,List.getElem?_eq_getElem hlt,aW s.args[j]];refine ao (by simpa only[aq]using ih s.args[j] (List.getElem_mem hlt) (hP s hs _ (List.getElem_mem hlt)) _) ?_;have ht:s.args.take (j+1)=s.args.take j++[s.args[j]]:=by rw[List.take_add_one,List.getElem?_eq_getElem hlt];rfl
  simp -dsimp -implicitDefEqProofs only[aw,ac,V.copy,V.lend,V.lend1,V.cells,V.boxable,over,al,ah,ae,ai,V.plain,Nat.reduceLeDiff,cond_true,cond_false,implies_true,eq_self,ne_eq,reduceIte,reduceCtorEq,Nat.reduceBEq,Nat.reduceLT,Nat.reduceEqDiff,Nat.reduceAdd,Nat.reduceSub,Nat.reduceMul];refine cX (by first|omega|(simp only[List.length_map,List.length_take];omega)) ?_;simp -dsimp -implicitDefEqProofs only[aw,ac,V.copy,V.lend,V.lend1,V.cells,V.boxable,over,al,ah,ae,ai,V.plain,Nat.reduceLeDiff,cond_true,cond_false,implies_true,eq_self,ne_eq,reduceIte,reduceCtorEq,Nat.reduceBEq,Nat.reduceLT,Nat.reduceEqDiff,Nat.reduceAdd,Nat.reduceSub,Nat.reduceMul,be hlt (show s.args.length≤9223372036854775807 by omega)];refine⟨hlt,Nxt.drop1 (Nat.le_refl _) (aS hb rfl) (by simp[aN,V.under,V.unders]) ⟨?_,rfl⟩⟩
  rw[ht,List.map_append,List.map_append];rfl
 ·simp -dsimp -implicitDefEqProofs only[aw,ac,V.copy,V.lend,V.lend1,V.cells,V.boxable,over,al,ah,ae,ai,V.plain,Nat.reduceLeDiff,cond_true,cond_false,implies_true,eq_self,ne_eq,reduceIte,reduceCtorEq,Nat.reduceBEq,Nat.reduceLT,Nat.reduceEqDiff,Nat.reduceAdd,Nat.reduceSub,Nat.reduceMul,Int.ofNat_lt,hlt,decide_false];rw[List.take_of_length_le (show s.args.length≤j by omega)];refine mf (by simpa only[aq]using hf s hs _) ?_;simp -dsimp -implicitDefEqProofs only[aw,ac,V.copy,V.lend,V.lend1,V.cells,V.boxable,over,al,ah,ae,ai,V.plain,Nat.reduceLeDiff,cond_true,cond_false,implies_true,eq_self,ne_eq,reduceIte,reduceCtorEq,Nat.reduceBEq,Nat.reduceLT,Nat.reduceEqDiff,Nat.reduceAdd,Nat.reduceSub,Nat.reduceMul];exact aj hb rfl rfl List.take_left ⟨rfl,rfl⟩
end Go.Proofs.YthekkgfmagliiaaGreatDoor
