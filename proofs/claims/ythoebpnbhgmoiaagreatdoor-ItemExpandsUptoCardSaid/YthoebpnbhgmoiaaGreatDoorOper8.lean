import Derived.Test.YthoebpnbhgmoiaaGreatDoorWord3
import Derived.Test.YthoebpnbhgmoiaaGreatDoorEval
set_option linter.unusedVariables false
set_option linter.unusedSimpArgs false
set_option linter.unusedSectionVars false
namespace Go.Proofs.YthoebpnbhgmoiaaGreatDoor
open Go.RowKit
theorem truth_fun(b:Bool)(σ:List (List V)):Fun G 148 [.d (.lit (.bool b))] σ (RetV (.d (dint (b2i b))) σ):=by
 refine fun_code Tryz.func148 k148 rfl fun hb hw=>?_;delta c148 oM oV kI kS kT kF;cases b
 ·simp -dsimp -implicitDefEqProofs only[aw,slots0,V.copy,eq_self,reduceIte,reduceCtorEq,Nat.reduceBEq,Nat.reduceLT,Nat.reduceEqDiff];exact fin_ret hb rfl rfl List.take_length ⟨rfl,rfl⟩
 ·simp -dsimp -implicitDefEqProofs only[aw,slots0,V.copy,eq_self,reduceIte,reduceCtorEq,Nat.reduceBEq,Nat.reduceLT,Nat.reduceEqDiff];exact fin_ret hb rfl rfl List.take_length ⟨rfl,rfl⟩
theorem unary_fun(op:Int)(x:Nat)(hx:x<65536)(σ:List (List V)):Fun G 132 [.d (dint op),.d (dint x)] σ (RetV (.d (dint (singleS op x))) σ):=by
 have e0:(x:Int)%65536=x:=by omega
 have ix:I64 x:=⟨by omega,by omega⟩
 refine fun_code Tryz.func132 k132 rfl fun hb hw=>?_;delta c132 oM oV kI kS kT kF;by_cases h4:op=4
 ·subst h4;simp -dsimp -implicitDefEqProofs only[aw,slots0,V.copy,V.lend,eq_self,reduceIte,reduceCtorEq,Nat.reduceBEq,Nat.reduceLT,Nat.reduceEqDiff,decide_true];refine fun_ret (truth_fun _ _) ?_;simp -dsimp -implicitDefEqProofs only[aw,V.copy,V.lend,eq_self,reduceIte,Nat.reduceBEq,Nat.reduceLT,Nat.reduceEqDiff];exact fin_ret hb rfl rfl List.take_length ⟨rfl,rfl⟩
 by_cases h5:op=5
 ·subst h5;simp -dsimp -implicitDefEqProofs only[aw,slots0,V.copy,V.lend,eq_self,reduceIte,reduceCtorEq,Nat.reduceBEq,Nat.reduceLT,Nat.reduceEqDiff,Int.reduceEq,decide_true,decide_false];refine fun_ret (r2inv_fun x ix _) ?_;simp -dsimp -implicitDefEqProofs only[aw,V.copy,V.lend,eq_self,reduceIte,Nat.reduceBEq,Nat.reduceLT,Nat.reduceEqDiff];exact fin_ret hb rfl rfl List.take_length ⟨rfl,rfl⟩
 by_cases h6:op=6
 ·subst h6;simp -dsimp -implicitDefEqProofs only[aw,slots0,V.copy,V.lend,eq_self,reduceIte,reduceCtorEq,Nat.reduceBEq,Nat.reduceLT,Nat.reduceEqDiff,Int.reduceEq,decide_true,decide_false];refine fun_ret (r2neg_fun x ix _) ?_;simp -dsimp -implicitDefEqProofs only[aw,V.copy,V.lend,eq_self,reduceIte,Nat.reduceBEq,Nat.reduceLT,Nat.reduceEqDiff];exact fin_ret hb rfl rfl List.take_length ⟨rfl,rfl⟩
 simp -dsimp -implicitDefEqProofs only[aw,slots0,V.copy,V.lend,eq_self,reduceIte,reduceCtorEq,Nat.reduceBEq,Nat.reduceLT,Nat.reduceEqDiff,decide_eq_false h4,decide_eq_false h5,decide_eq_false h6];refine fun_ret (r2ones_fun x hx _) ?_;simp -dsimp -implicitDefEqProofs only[aw,V.copy,eq_self,reduceIte,Nat.reduceBEq,Nat.reduceLT,Nat.reduceEqDiff];refine fin_ret hb rfl rfl List.take_length ⟨?_,rfl⟩;unfold singleS;rw[if_neg h4,if_neg h5,if_neg h6,e0];rfl
theorem binary_fun(op:Int)(h21:op≤21)(h7:7≤op)(x y:Nat)(hx:x<65536)(hy:y<65536)(σ:List (List V)):Fun G 133 [.d (dint op),.d (dint x),.d (dint y)] σ (RetV (.d (dint (doubleS op x y))) σ):=by
 have e0:(x:Int)%65536=x:=by omega
 have ix:I64 x:=⟨by omega,by omega⟩
 have iy:I64 y:=⟨by omega,by omega⟩
 refine fun_code Tryz.func133 k133 rfl fun hb hw=>?_;delta c133 oM oV kI kS kT kF;have hc:op=7∨op=8∨op=9∨op=10∨op=11∨op=12∨op=13∨op=14∨op=15∨op=16∨op=17∨op=18∨op=19∨op=20∨op=21:=by omega
 clear h21 h7;rcases hc with rfl|rfl|rfl|rfl|rfl|rfl|rfl|rfl|rfl|rfl|rfl|rfl|rfl|rfl|rfl
 all_goals
  simp -dsimp -implicitDefEqProofs only[aw,slots0,V.copy,V.lend,eq_self,reduceIte,reduceCtorEq,Nat.reduceBEq,Nat.reduceLT,Nat.reduceEqDiff,Nat.reduceAdd,Int.reduceEq,decide_true,decide_false]
 ·refine fun_ret (r2add_fun x y ix iy _) ?_;simp -dsimp -implicitDefEqProofs only[aw,V.copy,eq_self,reduceIte,Nat.reduceBEq,Nat.reduceLT,Nat.reduceEqDiff];exact fin_ret hb rfl rfl List.take_length ⟨rfl,rfl⟩
 ·refine fun_ret (r2sub_fun x y ix iy _) ?_;simp -dsimp -implicitDefEqProofs only[aw,V.copy,eq_self,reduceIte,Nat.reduceBEq,Nat.reduceLT,Nat.reduceEqDiff];exact fin_ret hb rfl rfl List.take_length ⟨rfl,rfl⟩
 ·refine fun_ret (r2mul_fun x y ix iy _) ?_;simp -dsimp -implicitDefEqProofs only[aw,V.copy,eq_self,reduceIte,Nat.reduceBEq,Nat.reduceLT,Nat.reduceEqDiff];exact fin_ret hb rfl rfl List.take_length ⟨rfl,rfl⟩
 ·refine fun_ret (r2and_fun x y hx hy _) ?_;simp -dsimp -implicitDefEqProofs only[aw,V.copy,eq_self,reduceIte,Nat.reduceBEq,Nat.reduceLT,Nat.reduceEqDiff];exact fin_ret hb rfl rfl List.take_length ⟨rfl,rfl⟩
 ·refine fun_ret (r2or_fun x y hx hy _) ?_;simp -dsimp -implicitDefEqProofs only[aw,V.copy,eq_self,reduceIte,Nat.reduceBEq,Nat.reduceLT,Nat.reduceEqDiff];exact fin_ret hb rfl rfl List.take_length ⟨rfl,rfl⟩
 ·refine fun_ret (r2xor_fun x y hx hy _) ?_;simp -dsimp -implicitDefEqProofs only[aw,V.copy,eq_self,reduceIte,Nat.reduceBEq,Nat.reduceLT,Nat.reduceEqDiff];exact fin_ret hb rfl rfl List.take_length ⟨rfl,rfl⟩
 ·refine fun_ret (r2shl_fun x hx y _) ?_;simp -dsimp -implicitDefEqProofs only[aw,V.copy,eq_self,reduceIte,Nat.reduceBEq,Nat.reduceLT,Nat.reduceEqDiff];exact fin_ret hb rfl rfl List.take_length ⟨by rw[show doubleS 13 (x:Int) y=shlS x y by unfold doubleS;rw[e0];rfl];rfl,rfl⟩
 ·refine fun_ret (r2shr_fun x hx y _) ?_;simp -dsimp -implicitDefEqProofs only[aw,V.copy,eq_self,reduceIte,Nat.reduceBEq,Nat.reduceLT,Nat.reduceEqDiff];exact fin_ret hb rfl rfl List.take_length ⟨by rw[show doubleS 14 (x:Int) y=shrS x y by unfold doubleS;rw[e0];rfl];rfl,rfl⟩
 ·refine fun_ret (truth_fun _ _) ?_;simp -dsimp -implicitDefEqProofs only[aw,V.copy,eq_self,reduceIte,Nat.reduceBEq,Nat.reduceLT,Nat.reduceEqDiff];exact fin_ret hb rfl rfl List.take_length ⟨rfl,rfl⟩
 ·refine fun_ret (truth_fun _ _) ?_;simp -dsimp -implicitDefEqProofs only[aw,V.copy,eq_self,reduceIte,Nat.reduceBEq,Nat.reduceLT,Nat.reduceEqDiff];exact fin_ret hb rfl rfl List.take_length ⟨rfl,rfl⟩
 ·refine fun_ret (truth_fun _ _) ?_;simp -dsimp -implicitDefEqProofs only[aw,V.copy,eq_self,reduceIte,Nat.reduceBEq,Nat.reduceLT,Nat.reduceEqDiff];exact fin_ret hb rfl rfl List.take_length ⟨rfl,rfl⟩
 ·refine fun_ret (truth_fun _ _) ?_;simp -dsimp -implicitDefEqProofs only[aw,V.copy,eq_self,reduceIte,Nat.reduceBEq,Nat.reduceLT,Nat.reduceEqDiff];exact fin_ret hb rfl rfl List.take_length ⟨rfl,rfl⟩
 ·by_cases hx0:(x:Int)=0
  ·simp -dsimp -implicitDefEqProofs only[aw,V.lend,eq_self,reduceIte,Nat.reduceLT,Nat.reduceEqDiff,decide_eq_true hx0];refine fun_ret (truth_fun _ _) ?_;simp -dsimp -implicitDefEqProofs only[aw,V.copy,eq_self,reduceIte,Nat.reduceBEq,Nat.reduceLT,Nat.reduceEqDiff];refine fin_ret hb rfl rfl List.take_length ⟨?_,rfl⟩;have hx1:((x:Int) != 0)=false:=by simp[hx0]
   show _=Out.ret (V.d (dint (b2i (((x:Int) != 0)&&((y:Int) != 0)))));rw[hx1];rfl
  ·simp -dsimp -implicitDefEqProofs only[aw,V.copy,V.lend,cond_true,eq_self,reduceIte,Nat.reduceLT,Nat.reduceEqDiff,decide_eq_false hx0];refine fun_ret (truth_fun _ _) ?_;simp -dsimp -implicitDefEqProofs only[aw,V.copy,eq_self,reduceIte,Nat.reduceBEq,Nat.reduceLT,Nat.reduceEqDiff];refine fin_ret hb rfl rfl List.take_length ⟨?_,rfl⟩;have hx1:((x:Int) != 0)=true:=bne_iff_ne.2 hx0;show _=Out.ret (V.d (dint (b2i (((x:Int) != 0)&&((y:Int) != 0)))));rw[hx1];rfl
 ·by_cases hx0:(x:Int)=0
  ·simp -dsimp -implicitDefEqProofs only[aw,V.copy,V.lend,cond_false,eq_self,reduceIte,Nat.reduceLT,Nat.reduceEqDiff,decide_eq_true hx0];refine fun_ret (truth_fun _ _) ?_;simp -dsimp -implicitDefEqProofs only[aw,V.copy,eq_self,reduceIte,Nat.reduceBEq,Nat.reduceLT,Nat.reduceEqDiff];refine fin_ret hb rfl rfl List.take_length ⟨?_,rfl⟩;have hx1:((x:Int) != 0)=false:=by simp[hx0]
   show _=Out.ret (V.d (dint (b2i (((x:Int) != 0)||((y:Int) != 0)))));rw[hx1];rfl
  ·simp -dsimp -implicitDefEqProofs only[aw,V.lend,eq_self,reduceIte,Nat.reduceLT,Nat.reduceEqDiff,decide_eq_false hx0];refine fun_ret (truth_fun _ _) ?_;simp -dsimp -implicitDefEqProofs only[aw,V.copy,eq_self,reduceIte,Nat.reduceBEq,Nat.reduceLT,Nat.reduceEqDiff];refine fin_ret hb rfl rfl List.take_length ⟨?_,rfl⟩;have hx1:((x:Int) != 0)=true:=bne_iff_ne.2 hx0;show _=Out.ret (V.d (dint (b2i (((x:Int) != 0)||((y:Int) != 0)))));rw[hx1];rfl
 ·by_cases hx0:(x:Int)=0
  ·simp -dsimp -implicitDefEqProofs only[aw,V.lend,eq_self,reduceIte,Nat.reduceLT,Nat.reduceEqDiff,decide_eq_true hx0];refine fun_ret (truth_fun _ _) ?_;simp -dsimp -implicitDefEqProofs only[aw,V.copy,eq_self,reduceIte,Nat.reduceBEq,Nat.reduceLT,Nat.reduceEqDiff];refine fin_ret hb rfl rfl List.take_length ⟨?_,rfl⟩;have hx1:((x:Int)==0)=true:=by simp[hx0]
   show _=Out.ret (V.d (dint (b2i (((x:Int)==0)||((y:Int) != 0)))));rw[hx1];rfl
  ·simp -dsimp -implicitDefEqProofs only[aw,V.copy,V.lend,cond_false,eq_self,reduceIte,Nat.reduceLT,Nat.reduceEqDiff,decide_eq_false hx0];refine fun_ret (truth_fun _ _) ?_;simp -dsimp -implicitDefEqProofs only[aw,V.copy,eq_self,reduceIte,Nat.reduceBEq,Nat.reduceLT,Nat.reduceEqDiff];refine fin_ret hb rfl rfl List.take_length ⟨?_,rfl⟩;have hx1:((x:Int)==0)=false:=beq_eq_false_iff_ne.2 hx0;show _=Out.ret (V.d (dint (b2i (((x:Int)==0)||((y:Int) != 0)))));rw[hx1];rfl
theorem wd_nat{x:Int}(h:Wd x):∃n:Nat,x=n∧n<65536:=by
 unfold Wd at h;exact⟨x.toNat,by omega,by omega⟩
theorem operate_fun(op:Int)(l:List Int)(hop:operB op l.length=true)(h1:1≤op)(h25:op≤25)(n1:¬op=1)(n2:¬op=2)(n3:¬op=3)(n24:¬op=24)(hw':∀x,x∈l→Wd x)(σ:List (List V)):
 Fun G 98 [.d (dint op),.d (.sl (l.map fun x=>[dint x]))] σ (RetV (.d (dint (operS op l))) σ):=by
 refine fun_code Tryz.func98 k98 rfl fun hb hw=>?_;delta c98 oM oV kI kS kT kF;by_cases h22:op=22
 ·subst h22
  match l,hop with
  | [a,b,c],_=>
  have e0:∀rest:List (List D),iaV 1 (V.d (D.sl ([dint a]::rest))) (V.d (D.lit (Value.int IntKind.i64 0)))=some (.row [dint a] 0):=fun _=>rfl;have e1:iaV 1 (V.d (D.sl [[dint a],[dint b],[dint c]])) (V.d (D.lit (Value.int IntKind.i64 1)))=some (.row [dint b] 0):=rfl;have e2:iaV 1 (V.d (D.sl [[dint a],[dint b],[dint c]])) (V.d (D.lit (Value.int IntKind.i64 2)))=some (.row [dint c] 0):=rfl;by_cases ha:a=0
  ·simp -dsimp -implicitDefEqProofs only[aw,slots0,V.copy,Nat.reduceLeDiff,eq_self,reduceIte,reduceCtorEq,Nat.reduceBEq,Nat.reduceLT,Nat.reduceEqDiff,decide_true,e0,e2,decide_eq_true ha];exact fin_ret hb rfl rfl List.take_length ⟨by show _=Out.ret (V.d (dint (if a=0 then c else b)));rw[if_pos ha];rfl,rfl⟩
  ·simp -dsimp -implicitDefEqProofs only[aw,slots0,V.copy,Nat.reduceLeDiff,eq_self,reduceIte,reduceCtorEq,Nat.reduceBEq,Nat.reduceLT,Nat.reduceEqDiff,decide_true,e0,e1,decide_eq_false ha];exact fin_ret hb rfl rfl List.take_length ⟨by show _=Out.ret (V.d (dint (if a=0 then c else b)));rw[if_neg ha];rfl,rfl⟩
 by_cases h23:op=23
 ·subst h23
  obtain⟨m,hm,hm2⟩:∃m,l.length=1+2*m∧m≤16:=by
   simp only[operB,if_true,Bool.and_eq_true,decide_eq_true_eq]at hop;exact⟨(l.length-1)/2,by omega,by omega⟩
  obtain⟨x,r,rfl⟩:∃x r,l=x::r:=by
   cases l with
   | nil=>simp at hm;omega
   | cons x r=>exact⟨x,r,rfl⟩
  have hr:r.length=2*m:=by simp at hm;omega
  have hspec:operS 23 (x::r)=b2i (insideL x r):=rfl;generalize hl:x::r=l at *;have l0:l[0]? = some x:=by rw[←hl];rfl
  have hdr:∀j,j<m→∃a b,l[1+2*j]? = some a∧l[2+2*j]? = some b∧r.drop (2*j)=a::b::r.drop (2*(j+1)):=by
   intro j hj;refine⟨r[2*j],r[2*j+1],?_,?_,?_⟩
   ·rw[←hl,show 1+2*j=2*j+1 by omega,List.getElem?_cons_succ];exact List.getElem?_eq_getElem (by omega)
   ·rw[←hl,show 2+2*j=(2*j+1)+1 by omega,List.getElem?_cons_succ];exact List.getElem?_eq_getElem (by omega)
   ·rw[List.drop_eq_getElem_cons (show 2*j<r.length by omega),List.drop_eq_getElem_cons (show 2*j+1<r.length by omega),show 2*j+1+1=2*(j+1)by omega]
  have i0:iaV 1 (V.d (D.sl (l.map fun x=>[dint x]))) (V.d (D.lit (Value.int IntKind.i64 0)))=some (.row [dint x] 0):=by rw[←hl];rfl
  simp -dsimp -implicitDefEqProofs only[aw,slots0,V.copy,eq_self,reduceIte,reduceCtorEq,Nat.reduceBEq,Nat.reduceLT,Nat.reduceEqDiff,Int.reduceEq,decide_true,decide_false];refine awp_for (R:=fun(j:Nat) ρ σ'=>ρ=[(1,.d (.sl (l.map fun x=>[dint x]))),(5,vint .i64 ((1+2*j:Nat):Int))]∧σ'=σ∧insideL x r=insideL x (r.drop (2*j))) m ⟨rfl,rfl,rfl⟩ ?_ _;rintro j ρ' σ' hj ⟨rfl,rfl,hrec⟩;have w1:IntKind.i64.wrap (((1+2*j:Nat):Int)+1)=((2+2*j:Nat):Int):=by rw[wi (by omega) (by omega)];omega
  have w2:IntKind.i64.wrap (((1+2*j:Nat):Int)+2)=((1+2*(j+1):Nat):Int):=by rw[wi (by omega) (by omega)];omega
  by_cases hlt:j<m
  ·obtain⟨a,b,ha,hb2,hd⟩:=hdr j hlt;have hst:insideL x (r.drop (2*j))=((decide (a≤x)&&decide (x≤b))||insideL x (r.drop (2*(j+1)))):=by rw[hd];rfl
   by_cases q1:a≤x
   ·by_cases q2:x≤b
    ·simp -dsimp -implicitDefEqProofs only[aw,V.copy,Nat.reduceLeDiff,cond_true,eq_self,reduceIte,Nat.reduceBEq,Nat.reduceLT,Nat.reduceEqDiff,w1,i0,decide_eq_true (show(((2+2*j:Nat):Int)<(l.length:Int))by omega),ha,hb2,decide_eq_true q1,decide_eq_true q2];exact fin_ret hb rfl rfl List.take_length ⟨by rw[hspec,hrec,hst,decide_eq_true q1,decide_eq_true q2];rfl,rfl⟩
    ·simp -dsimp -implicitDefEqProofs only[aw,V.copy,Nat.reduceLeDiff,cond_true,eq_self,reduceIte,Nat.reduceBEq,Nat.reduceLT,Nat.reduceEqDiff,w1,i0,decide_eq_true (show(((2+2*j:Nat):Int)<(l.length:Int))by omega),ha,hb2,decide_eq_true q1,decide_eq_false q2,w2];exact⟨hlt,Nxt.same (by simp) hb rfl ⟨rfl,rfl,by rw[hrec,hst,decide_eq_false q2,Bool.and_false,Bool.false_or]⟩⟩
   ·simp -dsimp -implicitDefEqProofs only[aw,V.copy,Nat.reduceLeDiff,eq_self,reduceIte,Nat.reduceBEq,Nat.reduceLT,Nat.reduceEqDiff,w1,i0,decide_eq_true (show(((2+2*j:Nat):Int)<(l.length:Int))by omega),ha,decide_eq_false q1,w2];exact⟨hlt,Nxt.same (by simp) hb rfl ⟨rfl,rfl,by rw[hrec,hst,decide_eq_false q1,Bool.false_and,Bool.false_or]⟩⟩
  ·simp -dsimp -implicitDefEqProofs only[aw,V.copy,eq_self,reduceIte,Nat.reduceBEq,Nat.reduceLT,Nat.reduceEqDiff,w1,decide_eq_false (show ¬(((2+2*j:Nat):Int)<(l.length:Int))by omega)];exact fin_ret hb rfl rfl List.take_length ⟨by rw[hspec,hrec,List.drop_of_length_le (by omega)];rfl,rfl⟩
 have har:(l.length:Int)=arity op:=by
  simp only[operB,if_neg h23,decide_eq_true_eq]at hop;exact hop
 have hl:(l.length=1∧(op=4∨op=5∨op=6∨op=25))∨(l.length=2∧7≤op∧op≤21):=by
  have:op=4∨op=5∨op=6∨op=25∨(7≤op∧op≤21):=by omega
  rcases this with rfl|rfl|rfl|rfl|h
  ·exact .inl ⟨by have:arity 4=1:=by decide
                  omega,by simp⟩
  ·exact .inl ⟨by have:arity 5=1:=by decide
                  omega,by simp⟩
  ·exact .inl ⟨by have:arity 6=1:=by decide
                  omega,by simp⟩
  ·exact .inl ⟨by have:arity 25=1:=by decide
                  omega,by simp⟩
  ·refine .inr ⟨?_,h⟩;have hc:op=7∨op=8∨op=9∨op=10∨op=11∨op=12∨op=13∨op=14∨op=15∨op=16∨op=17∨op=18∨op=19∨op=20∨op=21:=by omega
   have:arity op=2:=by
    rcases hc with rfl|rfl|rfl|rfl|rfl|rfl|rfl|rfl|rfl|rfl|rfl|rfl|rfl|rfl|rfl<;>decide
   omega
 have hz1:decide (((1:Nat):Int)=1)=true:=rfl;have hz2:decide (((2:Nat):Int)=1)=false:=rfl;have e0:∀(a:Int) (rest:List (List D)),iaV 1 (V.d (D.sl ([dint a]::rest))) (V.d (D.lit (Value.int IntKind.i64 0)))=some (.row [dint a] 0):=fun _ _=>rfl;rcases hl with⟨hl,hops⟩|⟨hl,h7,h21⟩
 ·match l,hl with
  | [a],_=>
  obtain⟨x,rfl,hx⟩:=wd_nat (hw' a (by simp));simp -dsimp -implicitDefEqProofs only[aw,slots0,V.copy,V.lend,Nat.reduceLeDiff,eq_self,reduceIte,reduceCtorEq,Nat.reduceBEq,Nat.reduceLT,Nat.reduceEqDiff,decide_eq_false h22,decide_eq_false h23,hz1,e0];refine fun_ret (unary_fun op x hx _) ?_;simp -dsimp -implicitDefEqProofs only[aw,V.copy,eq_self,reduceIte,reduceCtorEq,Nat.reduceBEq,Nat.reduceLT,Nat.reduceEqDiff];exact fin_ret hb rfl rfl List.take_length ⟨by unfold operS;rw[if_neg h22,if_neg h23];rfl,rfl⟩
 ·match l,hl with
  | [a,b],_=>
  obtain⟨x,rfl,hx⟩:=wd_nat (hw' a (by simp));obtain⟨y,rfl,hy⟩:=wd_nat (hw' b (by simp));have e1:iaV 1 (V.d (D.sl [[dint x],[dint y]])) (V.d (D.lit (Value.int IntKind.i64 1)))=some (.row [dint y] 0):=rfl;simp -dsimp -implicitDefEqProofs only[aw,slots0,V.copy,V.lend,Nat.reduceLeDiff,eq_self,reduceIte,reduceCtorEq,Nat.reduceBEq,Nat.reduceLT,Nat.reduceEqDiff,Nat.reduceAdd,decide_eq_false h22,decide_eq_false h23,hz2,e0,e1];refine calm_ret (binary_fun op h21 h7 x y hx hy _) ?_;simp -dsimp -implicitDefEqProofs only[aw,V.copy,eq_self,reduceIte,reduceCtorEq,Nat.reduceBEq,Nat.reduceLT,Nat.reduceEqDiff];exact fin_ret hb rfl rfl List.take_length ⟨by unfold operS;rw[if_neg h22,if_neg h23];rfl,rfl⟩
end Go.Proofs.YthoebpnbhgmoiaaGreatDoor
