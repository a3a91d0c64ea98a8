import Derived.Test.YtcbahpllcfbkmaaGreatDoorCw2
import Derived.Test.YtcbahpllcfbkmaaGreatDoorEt5
set_option linter.unusedVariables false
set_option linter.unusedSimpArgs false
set_option linter.unusedSectionVars false
namespace Go.Proofs.YtcbahpllcfbkmaaGreatDoor
open Go.RowKit
def ca(t:Option Bs)(x:Bs):Option Bs:=match t with|some u=>some (u++x)|none=>if x=[]then none else some x
theorem mZ(t:Option Bs){x:Bs}(h:x≠[]):some (t.getD []++x)=ca t x:=by
 cases t with
 | none=>simp[ca,h]
 | some u=>rfl
theorem fg(u x:Bs):ca (some u) x=some (u++x):=rfl
theorem vI(t:Option Bs):ca t []=t:=by
 cases t with
 | none=>rfl
 | some u=>simp[ca]
theorem dR(t:Option Bs)(x y:Bs):ca (ca t x) y=ca t (x++y):=by
 cases t with
 | none=>
  by_cases h:x=[]
  ·subst h;simp[ca]
  ·simp[ca,h]
 | some u=>simp[ca]
theorem uZ(t:Option Bs)(x:Bs):((ca t x).getD []).length=(t.getD []).length+x.length:=by
 cases t with
 | none=>
  by_cases h:x=[]
  ·subst h;rfl
  ·simp[ca,h]
 | some u=>simp[ca]
theorem cF(i:Nat)(t:Option Bs)(k:Nat)(ps:List ByteArray)(hk:k≤1000)(hl:(t.getD []).length+(lnT k (0,ps.flatMap aQ)).length≤140737488355328)(hp:ps.length≤1000)(σ:List (List V))(hs:σ[i]? = some (pgc i t k)):
 Fun G 28 [.ptr i 0,.d (cx ps)] σ (fun o σ'=>o=.ret (.tup [])∧σ'=σ.set i (pgc i (ca t (lnT k (0,ps.flatMap aQ))) k)):=by
 have h:=uy i t k ps hk (by rw[dn]at hl;simp only at hl;omega) hp σ hs;rw[mZ t (x:=blk k++(ps.flatMap aQ++[10])) (by simp)]at h;exact h
theorem dz(i:Nat)(t t':Bs)(k:Nat)(hk:k≤1000)(f:FuncId)(cap:List V)(σ:List (List V))(hs:σ[i]? = some (pgc i (some t) k))
 (h:Fun G f cap (σ.set i (pgc i (some t) ((k+1:Nat):Int))) (fun o σ'=>o=.ret (.tup [])∧σ'=σ.set i (pgc i (some t') ((k+1:Nat):Int)))):
 Fun G 29 [.ptr i 0,.fn f cap] σ (fun o σ'=>o=.ret (.tup [])∧σ'=σ.set i (pgc i (some t') k)):=by
 refine ax Tryz.func29 k29 rfl fun hb hw=>?_;have hi:i<σ.length:=(List.getElem?_eq_some_iff.1 hs).1;have h1:∀X:List V,(σ.set i X)[i]? = some X:=fun X=>List.getElem?_set_self hi;have h2:∀X Y:List V,(σ.set i X).set i Y=σ.set i Y:=fun X Y=>List.set_set X;have hs':σ[i]? = some [.ptr i 0,.own U8 1 (dbs t),.d (ay k)]:=hs;have w1:IntKind.i64.wrap ((k:Int)+1)=((k+1:Nat):Int):=by rw[bo (by omega) (by omega)];omega
 have w2:IntKind.i64.wrap (((k+1:Nat):Int)-1)=(k:Int):=by rw[bo (by omega) (by omega)];omega
 unfold c29;simp -dsimp -implicitDefEqProofs only[aw,ah,V.copy,V.lend,V.lend1,V.cells,V.boxable,over,ak,ae,ac,ai,V.plain,Nat.reduceLeDiff,cond_true,cond_false,implies_true,eq_self,ne_eq,reduceIte,reduceCtorEq,Nat.reduceBEq,Nat.reduceLT,Nat.reduceEqDiff,Nat.reduceAdd,Nat.reduceSub,Nat.reduceMul,hs',w1];refine bG (σ1:=σ.set i (pgc i (some t') ((k+1:Nat):Int))) h ?_;have h3:(σ.set i (pgc i (some t') ((k+1:Nat):Int)))[i]? = some [.ptr i 0,.own U8 1 (dbs t'),.d (ay ((k+1:Nat):Int))]:=h1 _;simp -dsimp -implicitDefEqProofs only[aw,ah,V.copy,V.lend,V.lend1,V.cells,V.boxable,over,ak,ae,ac,ai,V.plain,Nat.reduceLeDiff,cond_true,cond_false,implies_true,eq_self,ne_eq,reduceIte,reduceCtorEq,Nat.reduceBEq,Nat.reduceLT,Nat.reduceEqDiff,Nat.reduceAdd,Nat.reduceSub,Nat.reduceMul,h3,w2,h2]
 exact cH (v:=.tup []) (k:=σ.length) (Nat.le_refl _) (List.take_of_length_le (by simp)) (de hb (bK (t:=some t') (k:=k) hi)) rfl rfl ⟨rfl,rfl⟩
def wrF(kind:Int):FuncId:=if kind=2 then 90 else if kind=3 then 91 else if kind=4 then 92 else if kind=5 then 93 else if kind=6 then 94 else 95
theorem pO(kind:Int)(σ:List (List V)):Fun G 59 [.d (ay kind)] σ (a7 (.fn (wrF kind) []) σ):=by
 refine ax Tryz.func59 k59 rfl fun hb hw=>?_;unfold c59 wrF;by_cases h2:kind=2
 ·rw[if_pos h2];simp -dsimp -implicitDefEqProofs only[aw,ah,V.copy,V.lend,V.lend1,V.cells,V.boxable,over,ak,ae,ac,ai,V.plain,Nat.reduceLeDiff,cond_true,cond_false,implies_true,eq_self,ne_eq,reduceIte,reduceCtorEq,Nat.reduceBEq,Nat.reduceLT,Nat.reduceEqDiff,Nat.reduceAdd,Nat.reduceSub,Nat.reduceMul,h2,Int.reduceEq,decide_true,decide_false];first|exact aj hb rfl rfl List.take_length ⟨rfl,rfl⟩|exact aj hb rfl rfl List.take_left ⟨rfl,rfl⟩|(trace_state;fail "fin")
 rw[if_neg h2];by_cases h3:kind=3
 ·rw[if_pos h3];simp -dsimp -implicitDefEqProofs only[aw,ah,V.copy,V.lend,V.lend1,V.cells,V.boxable,over,ak,ae,ac,ai,V.plain,Nat.reduceLeDiff,cond_true,cond_false,implies_true,eq_self,ne_eq,reduceIte,reduceCtorEq,Nat.reduceBEq,Nat.reduceLT,Nat.reduceEqDiff,Nat.reduceAdd,Nat.reduceSub,Nat.reduceMul,h3,Int.reduceEq,decide_true,decide_false];first|exact aj hb rfl rfl List.take_length ⟨rfl,rfl⟩|exact aj hb rfl rfl List.take_left ⟨rfl,rfl⟩|(trace_state;fail "fin")
 rw[if_neg h3];by_cases h4:kind=4
 ·rw[if_pos h4];simp -dsimp -implicitDefEqProofs only[aw,ah,V.copy,V.lend,V.lend1,V.cells,V.boxable,over,ak,ae,ac,ai,V.plain,Nat.reduceLeDiff,cond_true,cond_false,implies_true,eq_self,ne_eq,reduceIte,reduceCtorEq,Nat.reduceBEq,Nat.reduceLT,Nat.reduceEqDiff,Nat.reduceAdd,Nat.reduceSub,Nat.reduceMul,h4,Int.reduceEq,decide_true,decide_false];first|exact aj hb rfl rfl List.take_length ⟨rfl,rfl⟩|exact aj hb rfl rfl List.take_left ⟨rfl,rfl⟩|(trace_state;fail "fin")
 rw[if_neg h4];by_cases h5:kind=5
 ·rw[if_pos h5];simp -dsimp -implicitDefEqProofs only[aw,ah,V.copy,V.lend,V.lend1,V.cells,V.boxable,over,ak,ae,ac,ai,V.plain,Nat.reduceLeDiff,cond_true,cond_false,implies_true,eq_self,ne_eq,reduceIte,reduceCtorEq,Nat.reduceBEq,Nat.reduceLT,Nat.reduceEqDiff,Nat.reduceAdd,Nat.reduceSub,Nat.reduceMul,h5,Int.reduceEq,decide_true,decide_false];first|exact aj hb rfl rfl List.take_length ⟨rfl,rfl⟩|exact aj hb rfl rfl List.take_left ⟨rfl,rfl⟩|(trace_state;fail "fin")
 rw[if_neg h5];by_cases h6:kind=6
 ·rw[if_pos h6];simp -dsimp -implicitDefEqProofs only[aw,ah,V.copy,V.lend,V.lend1,V.cells,V.boxable,over,ak,ae,ac,ai,V.plain,Nat.reduceLeDiff,cond_true,cond_false,implies_true,eq_self,ne_eq,reduceIte,reduceCtorEq,Nat.reduceBEq,Nat.reduceLT,Nat.reduceEqDiff,Nat.reduceAdd,Nat.reduceSub,Nat.reduceMul,h6,Int.reduceEq,decide_true,decide_false];first|exact aj hb rfl rfl List.take_length ⟨rfl,rfl⟩|exact aj hb rfl rfl List.take_left ⟨rfl,rfl⟩|(trace_state;fail "fin")
 rw[if_neg h6];simp -dsimp -implicitDefEqProofs only[aw,ah,V.copy,V.lend,V.lend1,V.cells,V.boxable,over,ak,ae,ac,ai,V.plain,Nat.reduceLeDiff,cond_true,cond_false,implies_true,eq_self,ne_eq,reduceIte,reduceCtorEq,Nat.reduceBEq,Nat.reduceLT,Nat.reduceEqDiff,Nat.reduceAdd,Nat.reduceSub,Nat.reduceMul,decide_eq_false h2,decide_eq_false h3,decide_eq_false h4,decide_eq_false h5,decide_eq_false h6];first|exact aj hb rfl rfl List.take_length ⟨rfl,rfl⟩|exact aj hb rfl rfl List.take_left ⟨rfl,rfl⟩|(trace_state;fail "fin")
structure PgOk(σ:List (List V))(i:Nat)(t:Option Bs)(k:Nat):Prop where
 at_:σ[i]? = some (pgc i t k)
 k1:k≤200
theorem kD{e:Ex}(h:bM e=0)(hs:aW e≤1100000)(σ:List (List V)):Fun G 121 [vex e] σ (a7 (.d (am (bs (aH e)))) σ):=by
 have hd:=kB e;have:=oe e (by omega) (by omega) σ;rw[if_pos h]at this;exact this
theorem yN(a b:Bs):[bs a,bs b].flatMap aQ=a++b:=by simp[aQ,bt]
section
variable (i : Nat) (t : Option Bs) (k : Nat) (x : It) (d : Nat) (σ : List (List V))
theorem tE(hp:PgOk σ i t k)(hsh:aP x d=0)(hk:x.kind=1)(hz:aW x.ex≤1100000)(hl:(t.getD []).length+(aO k (dT x)).length≤140737488355328):
 Fun G 95 [.ptr i 0,vit x] σ (fun o σ'=>o=.ret (.tup [])∧σ'=σ.set i (pgc i (ca t (aO k (dT x))) k)):=by
 have he:bM x.ex=0:=by have:=fr hsh;rw[if_neg (by omega),if_neg (by omega),if_neg (by omega)]at this;exact this
 have hlns:dT x=[(0,aH x.ex++[59])]:=by rw[eP,if_pos hk]
 rw[hlns,aX,bz,List.append_nil]at hl ⊢;have hi:i<σ.length:=(List.getElem?_eq_some_iff.1 hp.at_).1;have hpr:=fun σ=>kD he hz σ;simp only[a6]at hpr;refine ax Tryz.func95 k95 (by simp only[aV];rfl) fun hb hw=>?_;unfold c95;simp -dsimp -implicitDefEqProofs only[aw,ah,V.copy,V.lend,V.lend1,V.cells,V.boxable,over,ak,ae,ac,ai,V.plain,Nat.reduceLeDiff,cond_true,cond_false,implies_true,eq_self,ne_eq,reduceIte,reduceCtorEq,Nat.reduceBEq,Nat.reduceLT,Nat.reduceEqDiff,Nat.reduceAdd,Nat.reduceSub,Nat.reduceMul,aV];refine an (hpr _) ?_;simp -dsimp -implicitDefEqProofs only[aw,ah,V.copy,V.lend,V.lend1,V.cells,V.boxable,over,ak,ae,ac,ai,V.plain,Nat.reduceLeDiff,cond_true,cond_false,implies_true,eq_self,ne_eq,reduceIte,reduceCtorEq,Nat.reduceBEq,Nat.reduceLT,Nat.reduceEqDiff,Nat.reduceAdd,Nat.reduceSub,Nat.reduceMul]
 have hl2:=cF i t k [bs (aH x.ex),bs [59]] (by have:=hp.k1;omega) (by rw[yN];exact hl) (by simp);rw[yN]at hl2;refine bG (hl2 _ (by rw[List.getElem?_append_left hi];exact hp.at_)) ?_;rw[List.set_append_left _ _ hi];simp -dsimp -implicitDefEqProofs only[aw,ah,V.copy,V.lend,V.lend1,V.cells,V.boxable,over,ak,ae,ac,ai,V.plain,Nat.reduceLeDiff,cond_true,cond_false,implies_true,eq_self,ne_eq,reduceIte,reduceCtorEq,Nat.reduceBEq,Nat.reduceLT,Nat.reduceEqDiff,Nat.reduceAdd,Nat.reduceSub,Nat.reduceMul];exact cH (v:=.tup []) (k:=σ.length) (Nat.le_refl _) (List.take_left' (by simp)) (de hb (bK hi)) rfl rfl ⟨rfl,rfl⟩
theorem u7(hp:PgOk σ i t k)(hsh:aP x d=0)(hk:x.kind=2)(hz:aW x.ex≤1100000)(hl:(t.getD []).length+(aO k (dT x)).length≤140737488355328):
 Fun G 90 [.ptr i 0,vit x] σ (fun o σ'=>o=.ret (.tup [])∧σ'=σ.set i (pgc i (ca t (aO k (dT x))) k)):=by
 have he:bM x.ex=0:=by have:=fr hsh;rw[if_neg (by omega),if_neg (by omega),if_neg (by omega)]at this;exact this
 have hlns:dT x=[(0,[115,111,102,116,32]++(aH x.ex++[59]))]:=by rw[eP,if_neg (by omega),if_pos hk]
 rw[hlns,aX,bz,List.append_nil]at hl ⊢;have hi:i<σ.length:=(List.getElem?_eq_some_iff.1 hp.at_).1;have hpr:=fun σ=>kD he hz σ;simp only[a6]at hpr;refine ax Tryz.func90 k90 (by simp only[aV];rfl) fun hb hw=>?_;unfold c90;simp -dsimp -implicitDefEqProofs only[aw,ah,V.copy,V.lend,V.lend1,V.cells,V.boxable,over,ak,ae,ac,ai,V.plain,Nat.reduceLeDiff,cond_true,cond_false,implies_true,eq_self,ne_eq,reduceIte,reduceCtorEq,Nat.reduceBEq,Nat.reduceLT,Nat.reduceEqDiff,Nat.reduceAdd,Nat.reduceSub,Nat.reduceMul,aV];refine an (hpr _) ?_;simp -dsimp -implicitDefEqProofs only[aw,ah,V.copy,V.lend,V.lend1,V.cells,V.boxable,over,ak,ae,ac,ai,V.plain,Nat.reduceLeDiff,cond_true,cond_false,implies_true,eq_self,ne_eq,reduceIte,reduceCtorEq,Nat.reduceBEq,Nat.reduceLT,Nat.reduceEqDiff,Nat.reduceAdd,Nat.reduceSub,Nat.reduceMul]
 have fl:[bs [115,111,102,116,32],bs (aH x.ex),bs [59]].flatMap aQ=[115,111,102,116,32]++(aH x.ex++[59]):=by simp[aQ,bt]
 have hl2:=cF i t k [bs [115,111,102,116,32],bs (aH x.ex),bs [59]] (by have:=hp.k1;omega) (by rw[fl];exact hl) (by simp);rw[fl]at hl2;refine bG (hl2 _ (by rw[List.getElem?_append_left hi];exact hp.at_)) ?_;rw[List.set_append_left _ _ hi];simp -dsimp -implicitDefEqProofs only[aw,ah,V.copy,V.lend,V.lend1,V.cells,V.boxable,over,ak,ae,ac,ai,V.plain,Nat.reduceLeDiff,cond_true,cond_false,implies_true,eq_self,ne_eq,reduceIte,reduceCtorEq,Nat.reduceBEq,Nat.reduceLT,Nat.reduceEqDiff,Nat.reduceAdd,Nat.reduceSub,Nat.reduceMul];exact cH (v:=.tup []) (k:=σ.length) (Nat.le_refl _) (List.take_left' (by simp)) (de hb (bK hi)) rfl rfl ⟨rfl,rfl⟩
theorem su(hp:PgOk σ i t k)(hsh:aP x d=0)(hk:x.kind=3)(hz:eY x≤1100000)(hl:(t.getD []).length+(aO k (dT x)).length≤140737488355328):
 Fun G 91 [.ptr i 0,vit x] σ (fun o σ'=>o=.ret (.tup [])∧σ'=σ.set i (pgc i (ca t (aO k (dT x))) k)):=by
 obtain⟨-,hws,hnm⟩:=mU hsh hk;have hbig:=cm x;have hlns:dT x=[(0,[100,105,115,116,32]++(aQ x.name++([32,123,32]++(jf x.ws++[32,125,59]))))]:=by rw[eP,if_neg (by omega),if_neg (by omega),if_pos hk]
 rw[hlns,aX,bz,List.append_nil]at hl ⊢;have hi:i<σ.length:=(List.getElem?_eq_some_iff.1 hp.at_).1;refine ax Tryz.func91 k91 (by simp only[aV];rfl) fun hb hw=>?_;unfold c91;simp -dsimp -implicitDefEqProofs only[aw,ah,V.copy,V.lend,V.lend1,V.cells,V.boxable,over,ak,ae,ac,ai,V.plain,Nat.reduceLeDiff,cond_true,cond_false,implies_true,eq_self,ne_eq,reduceIte,reduceCtorEq,Nat.reduceBEq,Nat.reduceLT,Nat.reduceEqDiff,Nat.reduceAdd,Nat.reduceSub,Nat.reduceMul,aV];refine aM (me x.name hnm _) ?_;simp -dsimp -implicitDefEqProofs only[aw,ah,V.copy,V.lend,V.lend1,V.cells,V.boxable,over,ak,ae,ac,ai,V.plain,Nat.reduceLeDiff,cond_true,cond_false,implies_true,eq_self,ne_eq,reduceIte,reduceCtorEq,Nat.reduceBEq,Nat.reduceLT,Nat.reduceEqDiff,Nat.reduceAdd,Nat.reduceSub,Nat.reduceMul]
 refine aM (gI x.ws (fun w hw=>uO (List.all_eq_true.1 hws w hw)) (by omega) _) ?_;simp -dsimp -implicitDefEqProofs only[aw,ah,V.copy,V.lend,V.lend1,V.cells,V.boxable,over,ak,ae,ac,ai,V.plain,Nat.reduceLeDiff,cond_true,cond_false,implies_true,eq_self,ne_eq,reduceIte,reduceCtorEq,Nat.reduceBEq,Nat.reduceLT,Nat.reduceEqDiff,Nat.reduceAdd,Nat.reduceSub,Nat.reduceMul];have fl:[bs [100,105,115,116,32],x.name,bs [32,123,32],bs (jf x.ws),bs [32,125,59]].flatMap aQ=[100,105,115,116,32]++(aQ x.name++([32,123,32]++(jf x.ws++[32,125,59]))):=by simp[aQ,bt]
 have hl2:=cF i t k [bs [100,105,115,116,32],x.name,bs [32,123,32],bs (jf x.ws),bs [32,125,59]] (by have:=hp.k1;omega) (by rw[fl];exact hl) (by simp);rw[fl]at hl2;refine cW (hl2 _ (by rw[List.getElem?_append_left hi];exact hp.at_)) ?_ ?_
 ·simp -dsimp -implicitDefEqProofs only[aw,ah,V.copy,V.lend,V.lend1,V.cells,V.boxable,over,ak,ae,ac,ai,V.plain,Nat.reduceLeDiff,cond_true,cond_false,implies_true,eq_self,ne_eq,reduceIte,reduceCtorEq,Nat.reduceBEq,Nat.reduceLT,Nat.reduceEqDiff,Nat.reduceAdd,Nat.reduceSub,Nat.reduceMul]
 rw[List.set_append_left _ _ hi];simp -dsimp -implicitDefEqProofs only[aw,ah,V.copy,V.lend,V.lend1,V.cells,V.boxable,over,ak,ae,ac,ai,V.plain,Nat.reduceLeDiff,cond_true,cond_false,implies_true,eq_self,ne_eq,reduceIte,reduceCtorEq,Nat.reduceBEq,Nat.reduceLT,Nat.reduceEqDiff,Nat.reduceAdd,Nat.reduceSub,Nat.reduceMul];exact cH (v:=.tup []) (k:=σ.length) (Nat.le_refl _) (List.take_left' (by simp)) (de hb (bK hi)) rfl rfl ⟨rfl,rfl⟩
theorem oE(hp:PgOk σ i t k)(hsh:aP x d=0)(hk:x.kind=6)(hz:eY x≤1100000)(hl:(t.getD []).length+(aO k (dT x)).length≤140737488355328):
 Fun G 94 [.ptr i 0,vit x] σ (fun o σ'=>o=.ret (.tup [])∧σ'=σ.set i (pgc i (ca t (aO k (dT x))) k)):=by
 obtain⟨-,-,hb1,hb2⟩:=jX hsh hk;have hbig:=cm x;have hlns:dT x=[(0,[115,111,108,118,101,32]++(dZ [44,32] (x.bef.map aQ)++([32,98,101,102,111,114,101,32]++(dZ [44,32] (x.aft.map aQ)++[59]))))]:=by rw[eP,if_neg (by omega),if_neg (by omega),if_neg (by omega),if_neg (by omega),if_neg (by omega)]
 rw[hlns,aX,bz,List.append_nil]at hl ⊢;have hi:i<σ.length:=(List.getElem?_eq_some_iff.1 hp.at_).1;have f1:=fun σ=>kf x.bef hb1 (by omega) σ;have f2:=fun σ=>kf x.aft hb2 (by omega) σ;simp only[cx]at f1 f2;refine ax Tryz.func94 k94 (by simp only[aV];rfl) fun hb hw=>?_;unfold c94;simp -dsimp -implicitDefEqProofs only[aw,ah,V.copy,V.lend,V.lend1,V.cells,V.boxable,over,ak,ae,ac,ai,V.plain,Nat.reduceLeDiff,cond_true,cond_false,implies_true,eq_self,ne_eq,reduceIte,reduceCtorEq,Nat.reduceBEq,Nat.reduceLT,Nat.reduceEqDiff,Nat.reduceAdd,Nat.reduceSub,Nat.reduceMul,aV];refine aM (f1 _) ?_
 simp -dsimp -implicitDefEqProofs only[aw,ah,V.copy,V.lend,V.lend1,V.cells,V.boxable,over,ak,ae,ac,ai,V.plain,Nat.reduceLeDiff,cond_true,cond_false,implies_true,eq_self,ne_eq,reduceIte,reduceCtorEq,Nat.reduceBEq,Nat.reduceLT,Nat.reduceEqDiff,Nat.reduceAdd,Nat.reduceSub,Nat.reduceMul];refine aM (f2 _) ?_;simp -dsimp -implicitDefEqProofs only[aw,ah,V.copy,V.lend,V.lend1,V.cells,V.boxable,over,ak,ae,ac,ai,V.plain,Nat.reduceLeDiff,cond_true,cond_false,implies_true,eq_self,ne_eq,reduceIte,reduceCtorEq,Nat.reduceBEq,Nat.reduceLT,Nat.reduceEqDiff,Nat.reduceAdd,Nat.reduceSub,Nat.reduceMul];generalize dZ [44,32] (x.bef.map aQ)=L1 at *;generalize dZ [44,32] (x.aft.map aQ)=L2 at *
 have fl:[bs [115,111,108,118,101,32],bs L1,bs [32,98,101,102,111,114,101,32],bs L2,bs [59]].flatMap aQ=[115,111,108,118,101,32]++(L1++([32,98,101,102,111,114,101,32]++(L2++[59]))):=by simp[aQ,bt]
 have hl2:=cF i t k [bs [115,111,108,118,101,32],bs L1,bs [32,98,101,102,111,114,101,32],bs L2,bs [59]] (by have:=hp.k1;omega) (by rw[fl];exact hl) (by simp);rw[fl]at hl2;refine cW (hl2 _ (by rw[List.getElem?_append_left hi];exact hp.at_)) ?_ ?_
 ·simp -dsimp -implicitDefEqProofs only[aw,ah,V.copy,V.lend,V.lend1,V.cells,V.boxable,over,ak,ae,ac,ai,V.plain,Nat.reduceLeDiff,cond_true,cond_false,implies_true,eq_self,ne_eq,reduceIte,reduceCtorEq,Nat.reduceBEq,Nat.reduceLT,Nat.reduceEqDiff,Nat.reduceAdd,Nat.reduceSub,Nat.reduceMul]
 rw[List.set_append_left _ _ hi];simp -dsimp -implicitDefEqProofs only[aw,ah,V.copy,V.lend,V.lend1,V.cells,V.boxable,over,ak,ae,ac,ai,V.plain,Nat.reduceLeDiff,cond_true,cond_false,implies_true,eq_self,ne_eq,reduceIte,reduceCtorEq,Nat.reduceBEq,Nat.reduceLT,Nat.reduceEqDiff,Nat.reduceAdd,Nat.reduceSub,Nat.reduceMul];exact cH (v:=.tup []) (k:=σ.length) (Nat.le_refl _) (List.take_left' (by simp)) (de hb (bK hi)) rfl rfl ⟨rfl,rfl⟩
end
end Go.Proofs.YtcbahpllcfbkmaaGreatDoor
