import Derived.Test.YthoebpnbhgmoiaaGreatDoorWord3
import Derived.Test.YthoebpnbhgmoiaaGreatDoorEval
set_option linter.unusedVariables false
set_option linter.unusedSimpArgs false
set_option linter.unusedSectionVars false
open Int renaming reduceEq→JH
open List renaming take_length→JI,drop_eq_getElem_cons→JJ,getElem?_eq_getElem→JK,getElem?_cons_succ→JL
open Nat renaming reduceEqDiff→JM,reduceLT→JO,reduceBEq→JP,reduceLeDiff→JQ,reduceAdd→JR
namespace Go.Proofs.YthoebpnbhgmoiaaGreatDoor
open Go.RowKit
theorem cW(b:Bool)(σ:List (List V)):Fun G 148 [.d (.lit (.bool b))] σ (aO (.d (ah (b2i b))) σ):=by
 refine ao Tryz.func148 IO rfl fun hb hw=>?_;delta GI oM oV kI kS kT kF;cases b
 ·simp -dsimp -implicitDefEqProofs only[aw,aj,V.copy,eq_self,reduceIte,reduceCtorEq,JP,JO,JM];exact ac hb rfl rfl JI ⟨rfl,rfl⟩
 ·simp -dsimp -implicitDefEqProofs only[aw,aj,V.copy,eq_self,reduceIte,reduceCtorEq,JP,JO,JM];exact ac hb rfl rfl JI ⟨rfl,rfl⟩
theorem wL(op:Int)(x:Nat)(hx:x<65536)(σ:List (List V)):Fun G 132 [.d (ah op),.d (ah x)] σ (aO (.d (ah (kh op x))) σ):=by
 have e0:(x:Int)%65536=x:=by omega
 have ix:I64 x:=⟨by omega,by omega⟩
 refine ao Tryz.func132 Jv rfl fun hb hw=>?_;delta FH oM oV kI kS kT kF;by_cases h4:op=4
 ·subst h4;simp -dsimp -implicitDefEqProofs only[aw,aj,V.copy,V.lend,eq_self,reduceIte,reduceCtorEq,JP,JO,JM,decide_true];refine ae (cW _ _) ?_;simp -dsimp -implicitDefEqProofs only[aw,V.copy,V.lend,eq_self,reduceIte,JP,JO,JM];exact ac hb rfl rfl JI ⟨rfl,rfl⟩
 by_cases h5:op=5
 ·subst h5;simp -dsimp -implicitDefEqProofs only[aw,aj,V.copy,V.lend,eq_self,reduceIte,reduceCtorEq,JP,JO,JM,JH,decide_true,decide_false];refine ae (vL x ix _) ?_;simp -dsimp -implicitDefEqProofs only[aw,V.copy,V.lend,eq_self,reduceIte,JP,JO,JM];exact ac hb rfl rfl JI ⟨rfl,rfl⟩
 by_cases h6:op=6
 ·subst h6;simp -dsimp -implicitDefEqProofs only[aw,aj,V.copy,V.lend,eq_self,reduceIte,reduceCtorEq,JP,JO,JM,JH,decide_true,decide_false];refine ae (xD x ix _) ?_;simp -dsimp -implicitDefEqProofs only[aw,V.copy,V.lend,eq_self,reduceIte,JP,JO,JM];exact ac hb rfl rfl JI ⟨rfl,rfl⟩
 simp -dsimp -implicitDefEqProofs only[aw,aj,V.copy,V.lend,eq_self,reduceIte,reduceCtorEq,JP,JO,JM,decide_eq_false h4,decide_eq_false h5,decide_eq_false h6];refine ae (ts x hx _) ?_;simp -dsimp -implicitDefEqProofs only[aw,V.copy,eq_self,reduceIte,JP,JO,JM];refine ac hb rfl rfl JI ⟨?_,rfl⟩;unfold kh;rw[if_neg h4,if_neg h5,if_neg h6,e0];rfl
theorem r9(op:Int)(h21:op≤21)(h7:7≤op)(x y:Nat)(hx:x<65536)(hy:y<65536)(σ:List (List V)):Fun G 133 [.d (ah op),.d (ah x),.d (ah y)] σ (aO (.d (ah (fv op x y))) σ):=by
 have e0:(x:Int)%65536=x:=by omega
 have ix:I64 x:=⟨by omega,by omega⟩
 have iy:I64 y:=⟨by omega,by omega⟩
 refine ao Tryz.func133 IA rfl fun hb hw=>?_;delta Fb oM oV kI kS kT kF;have hc:op=7∨op=8∨op=9∨op=10∨op=11∨op=12∨op=13∨op=14∨op=15∨op=16∨op=17∨op=18∨op=19∨op=20∨op=21:=by omega
 clear h21 h7;rcases hc with rfl|rfl|rfl|rfl|rfl|rfl|rfl|rfl|rfl|rfl|rfl|rfl|rfl|rfl|rfl
 all_goals
  simp -dsimp -implicitDefEqProofs only[aw,aj,V.copy,V.lend,eq_self,reduceIte,reduceCtorEq,JP,JO,JM,JR,JH,decide_true,decide_false]
 ·refine ae (oQ x y ix iy _) ?_;simp -dsimp -implicitDefEqProofs only[aw,V.copy,eq_self,reduceIte,JP,JO,JM];exact ac hb rfl rfl JI ⟨rfl,rfl⟩
 ·refine ae (wN x y ix iy _) ?_;simp -dsimp -implicitDefEqProofs only[aw,V.copy,eq_self,reduceIte,JP,JO,JM];exact ac hb rfl rfl JI ⟨rfl,rfl⟩
 ·refine ae (vZ x y ix iy _) ?_;simp -dsimp -implicitDefEqProofs only[aw,V.copy,eq_self,reduceIte,JP,JO,JM];exact ac hb rfl rfl JI ⟨rfl,rfl⟩
 ·refine ae (w7 x y hx hy _) ?_;simp -dsimp -implicitDefEqProofs only[aw,V.copy,eq_self,reduceIte,JP,JO,JM];exact ac hb rfl rfl JI ⟨rfl,rfl⟩
 ·refine ae (yB x y hx hy _) ?_;simp -dsimp -implicitDefEqProofs only[aw,V.copy,eq_self,reduceIte,JP,JO,JM];exact ac hb rfl rfl JI ⟨rfl,rfl⟩
 ·refine ae (uN x y hx hy _) ?_;simp -dsimp -implicitDefEqProofs only[aw,V.copy,eq_self,reduceIte,JP,JO,JM];exact ac hb rfl rfl JI ⟨rfl,rfl⟩
 ·refine ae (vN x hx y _) ?_;simp -dsimp -implicitDefEqProofs only[aw,V.copy,eq_self,reduceIte,JP,JO,JM];exact ac hb rfl rfl JI ⟨by rw[show fv 13 (x:Int) y=rm x y by unfold fv;rw[e0];rfl];rfl,rfl⟩
 ·refine ae (oB x hx y _) ?_;simp -dsimp -implicitDefEqProofs only[aw,V.copy,eq_self,reduceIte,JP,JO,JM];exact ac hb rfl rfl JI ⟨by rw[show fv 14 (x:Int) y=nW x y by unfold fv;rw[e0];rfl];rfl,rfl⟩
 ·refine ae (cW _ _) ?_;simp -dsimp -implicitDefEqProofs only[aw,V.copy,eq_self,reduceIte,JP,JO,JM];exact ac hb rfl rfl JI ⟨rfl,rfl⟩
 ·refine ae (cW _ _) ?_;simp -dsimp -implicitDefEqProofs only[aw,V.copy,eq_self,reduceIte,JP,JO,JM];exact ac hb rfl rfl JI ⟨rfl,rfl⟩
 ·refine ae (cW _ _) ?_;simp -dsimp -implicitDefEqProofs only[aw,V.copy,eq_self,reduceIte,JP,JO,JM];exact ac hb rfl rfl JI ⟨rfl,rfl⟩
 ·refine ae (cW _ _) ?_;simp -dsimp -implicitDefEqProofs only[aw,V.copy,eq_self,reduceIte,JP,JO,JM];exact ac hb rfl rfl JI ⟨rfl,rfl⟩
 ·by_cases hx0:(x:Int)=0
  ·simp -dsimp -implicitDefEqProofs only[aw,V.lend,eq_self,reduceIte,JO,JM,decide_eq_true hx0];refine ae (cW _ _) ?_;simp -dsimp -implicitDefEqProofs only[aw,V.copy,eq_self,reduceIte,JP,JO,JM];refine ac hb rfl rfl JI ⟨?_,rfl⟩;have hx1:((x:Int) != 0)=false:=by simp[hx0]
   show _=Out.ret (V.d (ah (b2i (((x:Int) != 0)&&((y:Int) != 0)))));rw[hx1];rfl
  ·simp -dsimp -implicitDefEqProofs only[aw,V.copy,V.lend,cond_true,eq_self,reduceIte,JO,JM,decide_eq_false hx0];refine ae (cW _ _) ?_;simp -dsimp -implicitDefEqProofs only[aw,V.copy,eq_self,reduceIte,JP,JO,JM];refine ac hb rfl rfl JI ⟨?_,rfl⟩;have hx1:((x:Int) != 0)=true:=bne_iff_ne.2 hx0;show _=Out.ret (V.d (ah (b2i (((x:Int) != 0)&&((y:Int) != 0)))));rw[hx1];rfl
 ·by_cases hx0:(x:Int)=0
  ·simp -dsimp -implicitDefEqProofs only[aw,V.copy,V.lend,cond_false,eq_self,reduceIte,JO,JM,decide_eq_true hx0];refine ae (cW _ _) ?_;simp -dsimp -implicitDefEqProofs only[aw,V.copy,eq_self,reduceIte,JP,JO,JM];refine ac hb rfl rfl JI ⟨?_,rfl⟩;have hx1:((x:Int) != 0)=false:=by simp[hx0]
   show _=Out.ret (V.d (ah (b2i (((x:Int) != 0)||((y:Int) != 0)))));rw[hx1];rfl
  ·simp -dsimp -implicitDefEqProofs only[aw,V.lend,eq_self,reduceIte,JO,JM,decide_eq_false hx0];refine ae (cW _ _) ?_;simp -dsimp -implicitDefEqProofs only[aw,V.copy,eq_self,reduceIte,JP,JO,JM];refine ac hb rfl rfl JI ⟨?_,rfl⟩;have hx1:((x:Int) != 0)=true:=bne_iff_ne.2 hx0;show _=Out.ret (V.d (ah (b2i (((x:Int) != 0)||((y:Int) != 0)))));rw[hx1];rfl
 ·by_cases hx0:(x:Int)=0
  ·simp -dsimp -implicitDefEqProofs only[aw,V.lend,eq_self,reduceIte,JO,JM,decide_eq_true hx0];refine ae (cW _ _) ?_;simp -dsimp -implicitDefEqProofs only[aw,V.copy,eq_self,reduceIte,JP,JO,JM];refine ac hb rfl rfl JI ⟨?_,rfl⟩;have hx1:((x:Int)==0)=true:=by simp[hx0]
   show _=Out.ret (V.d (ah (b2i (((x:Int)==0)||((y:Int) != 0)))));rw[hx1];rfl
  ·simp -dsimp -implicitDefEqProofs only[aw,V.copy,V.lend,cond_false,eq_self,reduceIte,JO,JM,decide_eq_false hx0];refine ae (cW _ _) ?_;simp -dsimp -implicitDefEqProofs only[aw,V.copy,eq_self,reduceIte,JP,JO,JM];refine ac hb rfl rfl JI ⟨?_,rfl⟩;have hx1:((x:Int)==0)=false:=beq_eq_false_iff_ne.2 hx0;show _=Out.ret (V.d (ah (b2i (((x:Int)==0)||((y:Int) != 0)))));rw[hx1];rfl
theorem ss{x:Int}(h:Wd x):∃n:Nat,x=n∧n<65536:=by
 unfold Wd at h;exact⟨x.toNat,by omega,by omega⟩
theorem rS(op:Int)(l:List Int)(hop:cY op l.length=true)(h1:1≤op)(h25:op≤25)(n1:¬op=1)(n2:¬op=2)(n3:¬op=3)(n24:¬op=24)(hw':∀x,x∈l→Wd x)(σ:List (List V)):
 Fun G 98 [.d (ah op),.d (.sl (l.map fun x=>[ah x]))] σ (aO (.d (ah (kz op l))) σ):=by
 refine ao Tryz.func98 k98 rfl fun hb hw=>?_;delta c98 oM oV kI kS kT kF;by_cases h22:op=22
 ·subst h22
  match l,hop with
  | [a,b,c],_=>
  have e0:∀rest:List (List D),iaV 1 (V.d (D.sl ([ah a]::rest))) (V.d (D.lit (Value.int IntKind.i64 0)))=some (.row [ah a] 0):=fun _=>rfl;have e1:iaV 1 (V.d (D.sl [[ah a],[ah b],[ah c]])) (V.d (D.lit (Value.int IntKind.i64 1)))=some (.row [ah b] 0):=rfl;have e2:iaV 1 (V.d (D.sl [[ah a],[ah b],[ah c]])) (V.d (D.lit (Value.int IntKind.i64 2)))=some (.row [ah c] 0):=rfl;by_cases ha:a=0
  ·simp -dsimp -implicitDefEqProofs only[aw,aj,V.copy,JQ,eq_self,reduceIte,reduceCtorEq,JP,JO,JM,decide_true,e0,e2,decide_eq_true ha];exact ac hb rfl rfl JI ⟨by show _=Out.ret (V.d (ah (if a=0 then c else b)));rw[if_pos ha];rfl,rfl⟩
  ·simp -dsimp -implicitDefEqProofs only[aw,aj,V.copy,JQ,eq_self,reduceIte,reduceCtorEq,JP,JO,JM,decide_true,e0,e1,decide_eq_false ha];exact ac hb rfl rfl JI ⟨by show _=Out.ret (V.d (ah (if a=0 then c else b)));rw[if_neg ha];rfl,rfl⟩
 by_cases h23:op=23
 ·subst h23
  obtain⟨m,hm,hm2⟩:∃m,l.length=1+2*m∧m≤16:=by
   simp only[cY,if_true,Bool.and_eq_true,decide_eq_true_eq]at hop;exact⟨(l.length-1)/2,by omega,by omega⟩
  obtain⟨x,r,rfl⟩:∃x r,l=x::r:=by
   cases l with
   | nil=>simp at hm;omega
   | cons x r=>exact⟨x,r,rfl⟩
  have hr:r.length=2*m:=by simp at hm;omega
  have hspec:kz 23 (x::r)=b2i (ic x r):=rfl;generalize hl:x::r=l at *;have l0:l[0]? = some x:=by rw[←hl];rfl
  have hdr:∀j,j<m→∃a b,l[1+2*j]? = some a∧l[2+2*j]? = some b∧r.drop (2*j)=a::b::r.drop (2*(j+1)):=by
   intro j hj;refine⟨r[2*j],r[2*j+1],?_,?_,?_⟩
   ·rw[←hl,show 1+2*j=2*j+1 by omega,JL];exact JK (by omega)
   ·rw[←hl,show 2+2*j=(2*j+1)+1 by omega,JL];exact JK (by omega)
   ·rw[JJ (show 2*j<r.length by omega),JJ (show 2*j+1<r.length by omega),show 2*j+1+1=2*(j+1)by omega]
  have i0:iaV 1 (V.d (D.sl (l.map fun x=>[ah x]))) (V.d (D.lit (Value.int IntKind.i64 0)))=some (.row [ah x] 0):=by rw[←hl];rfl
  simp -dsimp -implicitDefEqProofs only[aw,aj,V.copy,eq_self,reduceIte,reduceCtorEq,JP,JO,JM,JH,decide_true,decide_false];refine bC (R:=fun(j:Nat) ρ σ'=>ρ=[(1,.d (.sl (l.map fun x=>[ah x]))),(5,aL .i64 ((1+2*j:Nat):Int))]∧σ'=σ∧ic x r=ic x (r.drop (2*j))) m ⟨rfl,rfl,rfl⟩ ?_ _;rintro j ρ' σ' hj ⟨rfl,rfl,hrec⟩;have w1:IntKind.i64.wrap (((1+2*j:Nat):Int)+1)=((2+2*j:Nat):Int):=by rw[wi (by omega) (by omega)];omega
  have w2:IntKind.i64.wrap (((1+2*j:Nat):Int)+2)=((1+2*(j+1):Nat):Int):=by rw[wi (by omega) (by omega)];omega
  by_cases hlt:j<m
  ·obtain⟨a,b,ha,hb2,hd⟩:=hdr j hlt;have hst:ic x (r.drop (2*j))=((decide (a≤x)&&decide (x≤b))||ic x (r.drop (2*(j+1)))):=by rw[hd];rfl
   by_cases q1:a≤x
   ·by_cases q2:x≤b
    ·simp -dsimp -implicitDefEqProofs only[aw,V.copy,JQ,cond_true,eq_self,reduceIte,JP,JO,JM,w1,i0,decide_eq_true (show(((2+2*j:Nat):Int)<(l.length:Int))by omega),ha,hb2,decide_eq_true q1,decide_eq_true q2];exact ac hb rfl rfl JI ⟨by rw[hspec,hrec,hst,decide_eq_true q1,decide_eq_true q2];rfl,rfl⟩
    ·simp -dsimp -implicitDefEqProofs only[aw,V.copy,JQ,cond_true,eq_self,reduceIte,JP,JO,JM,w1,i0,decide_eq_true (show(((2+2*j:Nat):Int)<(l.length:Int))by omega),ha,hb2,decide_eq_true q1,decide_eq_false q2,w2];exact⟨hlt,Nxt.same (by simp) hb rfl ⟨rfl,rfl,by rw[hrec,hst,decide_eq_false q2,Bool.and_false,Bool.false_or]⟩⟩
   ·simp -dsimp -implicitDefEqProofs only[aw,V.copy,JQ,eq_self,reduceIte,JP,JO,JM,w1,i0,decide_eq_true (show(((2+2*j:Nat):Int)<(l.length:Int))by omega),ha,decide_eq_false q1,w2];exact⟨hlt,Nxt.same (by simp) hb rfl ⟨rfl,rfl,by rw[hrec,hst,decide_eq_false q1,Bool.false_and,Bool.false_or]⟩⟩
  ·simp -dsimp -implicitDefEqProofs only[aw,V.copy,eq_self,reduceIte,JP,JO,JM,w1,decide_eq_false (show ¬(((2+2*j:Nat):Int)<(l.length:Int))by omega)];exact ac hb rfl rfl JI ⟨by rw[hspec,hrec,List.drop_of_length_le (by omega)];rfl,rfl⟩
 have har:(l.length:Int)=eI op:=by
  simp only[cY,if_neg h23,decide_eq_true_eq]at hop;exact hop
 have hl:(l.length=1∧(op=4∨op=5∨op=6∨op=25))∨(l.length=2∧7≤op∧op≤21):=by
  have:op=4∨op=5∨op=6∨op=25∨(7≤op∧op≤21):=by omega
  rcases this with rfl|rfl|rfl|rfl|h
  ·exact .inl ⟨by have:eI 4=1:=by decide
                  omega,by simp⟩
  ·exact .inl ⟨by have:eI 5=1:=by decide
                  omega,by simp⟩
  ·exact .inl ⟨by have:eI 6=1:=by decide
                  omega,by simp⟩
  ·exact .inl ⟨by have:eI 25=1:=by decide
                  omega,by simp⟩
  ·refine .inr ⟨?_,h⟩;have hc:op=7∨op=8∨op=9∨op=10∨op=11∨op=12∨op=13∨op=14∨op=15∨op=16∨op=17∨op=18∨op=19∨op=20∨op=21:=by omega
   have:eI op=2:=by
    rcases hc with rfl|rfl|rfl|rfl|rfl|rfl|rfl|rfl|rfl|rfl|rfl|rfl|rfl|rfl|rfl<;>decide
   omega
 have hz1:decide (((1:Nat):Int)=1)=true:=rfl;have hz2:decide (((2:Nat):Int)=1)=false:=rfl;have e0:∀(a:Int) (rest:List (List D)),iaV 1 (V.d (D.sl ([ah a]::rest))) (V.d (D.lit (Value.int IntKind.i64 0)))=some (.row [ah a] 0):=fun _ _=>rfl;rcases hl with⟨hl,hops⟩|⟨hl,h7,h21⟩
 ·match l,hl with
  | [a],_=>
  obtain⟨x,rfl,hx⟩:=ss (hw' a (by simp));simp -dsimp -implicitDefEqProofs only[aw,aj,V.copy,V.lend,JQ,eq_self,reduceIte,reduceCtorEq,JP,JO,JM,decide_eq_false h22,decide_eq_false h23,hz1,e0];refine ae (wL op x hx _) ?_;simp -dsimp -implicitDefEqProofs only[aw,V.copy,eq_self,reduceIte,reduceCtorEq,JP,JO,JM];exact ac hb rfl rfl JI ⟨by unfold kz;rw[if_neg h22,if_neg h23];rfl,rfl⟩
 ·match l,hl with
  | [a,b],_=>
  obtain⟨x,rfl,hx⟩:=ss (hw' a (by simp));obtain⟨y,rfl,hy⟩:=ss (hw' b (by simp));have e1:iaV 1 (V.d (D.sl [[ah x],[ah y]])) (V.d (D.lit (Value.int IntKind.i64 1)))=some (.row [ah y] 0):=rfl;simp -dsimp -implicitDefEqProofs only[aw,aj,V.copy,V.lend,JQ,eq_self,reduceIte,reduceCtorEq,JP,JO,JM,JR,decide_eq_false h22,decide_eq_false h23,hz2,e0,e1];refine aZ (r9 op h21 h7 x y hx hy _) ?_;simp -dsimp -implicitDefEqProofs only[aw,V.copy,eq_self,reduceIte,reduceCtorEq,JP,JO,JM];exact ac hb rfl rfl JI ⟨by unfold kz;rw[if_neg h22,if_neg h23];rfl,rfl⟩
end Go.Proofs.YthoebpnbhgmoiaaGreatDoor
