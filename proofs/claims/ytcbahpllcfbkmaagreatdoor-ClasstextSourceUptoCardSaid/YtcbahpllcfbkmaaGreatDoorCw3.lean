import Derived.Test.YtcbahpllcfbkmaaGreatDoorCw2
import Derived.Test.YtcbahpllcfbkmaaGreatDoorEt5
set_option linter.unusedVariables false
set_option linter.unusedSimpArgs false
set_option linter.unusedSectionVars false
namespace Go.Proofs.YtcbahpllcfbkmaaGreatDoor
open Go.RowKit
def cI(t:Option Bs)(x:Bs):Option Bs:=match t with|some u=>some (u++x)|none=>if x=[]then none else some x
theorem nv(t:Option Bs){x:Bs}(h:x≠[]):some (t.getD []++x)=cI t x:=by
 cases t with
 | none=>simp[cI,h]
 | some u=>rfl
theorem fA(u x:Bs):cI (some u) x=some (u++x):=rfl
theorem wu(t:Option Bs):cI t []=t:=by
 cases t with
 | none=>rfl
 | some u=>simp[cI]
theorem ez(t:Option Bs)(x y:Bs):cI (cI t x) y=cI t (x++y):=by
 cases t with
 | none=>
  by_cases h:x=[]
  ·subst h;simp[cI]
  ·simp[cI,h]
 | some u=>simp[cI]
theorem uB(t:Option Bs)(x:Bs):((cI t x).getD []).length=(t.getD []).length+x.length:=by
 cases t with
 | none=>
  by_cases h:x=[]
  ·subst h;rfl
  ·simp[cI,h]
 | some u=>simp[cI]
theorem cY(i:Nat)(t:Option Bs)(k:Nat)(ps:List ByteArray)(hk:k≤1000)(hl:(t.getD []).length+(lnT k (0,ps.flatMap aO)).length≤140737488355328)(hp:ps.length≤1000)(σ:List (List V))(hs:σ[i]? = some (pgc i t k)):
 Fun G 28 [.ptr i 0,.d (bX ps)] σ (fun o σ'=>o=.ret (.tup [])∧σ'=σ.set i (pgc i (cI t (lnT k (0,ps.flatMap aO))) k)):=by
 have h:=xf i t k ps hk (by rw[dR]at hl;simp only at hl;omega) hp σ hs;rw[nv t (x:=blk k++(ps.flatMap aO++[10])) (by simp)]at h;exact h
theorem dZ(i:Nat)(t t':Bs)(k:Nat)(hk:k≤1000)(f:FuncId)(cap:List V)(σ:List (List V))(hs:σ[i]? = some (pgc i (some t) k))
 (h:Fun G f cap (σ.set i (pgc i (some t) ((k+1:Nat):Int))) (fun o σ'=>o=.ret (.tup [])∧σ'=σ.set i (pgc i (some t') ((k+1:Nat):Int)))):
 Fun G 29 [.ptr i 0,.fn f cap] σ (fun o σ'=>o=.ret (.tup [])∧σ'=σ.set i (pgc i (some t') k)):=by
 refine aq Tryz.func29 k29 rfl fun hb hw=>?_;have hi:i<σ.length:=(List.getElem?_eq_some_iff.1 hs).1;have h1:∀X:List V,(σ.set i X)[i]? = some X:=fun X=>List.getElem?_set_self hi;have h2:∀X Y:List V,(σ.set i X).set i Y=σ.set i Y:=fun X Y=>List.set_set X;have hs':σ[i]? = some [.ptr i 0,.own U8 1 (dbs t),.d (ay k)]:=hs;have w1:IntKind.i64.wrap ((k:Int)+1)=((k+1:Nat):Int):=by rw[aS (by omega) (by omega)];omega
 have w2:IntKind.i64.wrap (((k+1:Nat):Int)-1)=(k:Int):=by rw[aS (by omega) (by omega)];omega
 unfold c29;simp -dsimp -implicitDefEqProofs only[aw,ah,V.copy,V.lend,V.lend1,V.cells,V.boxable,over,al,ae,ac,ai,V.plain,Nat.reduceLeDiff,cond_true,cond_false,implies_true,eq_self,ne_eq,reduceIte,reduceCtorEq,Nat.reduceBEq,Nat.reduceLT,Nat.reduceEqDiff,Nat.reduceAdd,Nat.reduceSub,Nat.reduceMul,hs',w1];refine bQ (σ1:=σ.set i (pgc i (some t') ((k+1:Nat):Int))) h ?_;have h3:(σ.set i (pgc i (some t') ((k+1:Nat):Int)))[i]? = some [.ptr i 0,.own U8 1 (dbs t'),.d (ay ((k+1:Nat):Int))]:=h1 _;simp -dsimp -implicitDefEqProofs only[aw,ah,V.copy,V.lend,V.lend1,V.cells,V.boxable,over,al,ae,ac,ai,V.plain,Nat.reduceLeDiff,cond_true,cond_false,implies_true,eq_self,ne_eq,reduceIte,reduceCtorEq,Nat.reduceBEq,Nat.reduceLT,Nat.reduceEqDiff,Nat.reduceAdd,Nat.reduceSub,Nat.reduceMul,h3,w2,h2]
 exact da (v:=.tup []) (k:=σ.length) (Nat.le_refl _) (List.take_of_length_le (by simp)) (dF hb (bK (t:=some t') (k:=k) hi)) rfl rfl ⟨rfl,rfl⟩
def wrF(kind:Int):FuncId:=if kind=2 then 90 else if kind=3 then 91 else if kind=4 then 92 else if kind=5 then 93 else if kind=6 then 94 else 95
theorem qo(kind:Int)(σ:List (List V)):Fun G 59 [.d (ay kind)] σ (aN (.fn (wrF kind) []) σ):=by
 refine aq Tryz.func59 k59 rfl fun hb hw=>?_;unfold c59 wrF;by_cases h2:kind=2
 ·rw[if_pos h2];simp -dsimp -implicitDefEqProofs only[aw,ah,V.copy,V.lend,V.lend1,V.cells,V.boxable,over,al,ae,ac,ai,V.plain,Nat.reduceLeDiff,cond_true,cond_false,implies_true,eq_self,ne_eq,reduceIte,reduceCtorEq,Nat.reduceBEq,Nat.reduceLT,Nat.reduceEqDiff,Nat.reduceAdd,Nat.reduceSub,Nat.reduceMul,h2,Int.reduceEq,decide_true,decide_false];first|exact aj hb rfl rfl List.take_length ⟨rfl,rfl⟩|exact aj hb rfl rfl List.take_left ⟨rfl,rfl⟩|(trace_state;fail "fin")
 rw[if_neg h2];by_cases h3:kind=3
 ·rw[if_pos h3];simp -dsimp -implicitDefEqProofs only[aw,ah,V.copy,V.lend,V.lend1,V.cells,V.boxable,over,al,ae,ac,ai,V.plain,Nat.reduceLeDiff,cond_true,cond_false,implies_true,eq_self,ne_eq,reduceIte,reduceCtorEq,Nat.reduceBEq,Nat.reduceLT,Nat.reduceEqDiff,Nat.reduceAdd,Nat.reduceSub,Nat.reduceMul,h3,Int.reduceEq,decide_true,decide_false];first|exact aj hb rfl rfl List.take_length ⟨rfl,rfl⟩|exact aj hb rfl rfl List.take_left ⟨rfl,rfl⟩|(trace_state;fail "fin")
 rw[if_neg h3];by_cases h4:kind=4
 ·rw[if_pos h4];simp -dsimp -implicitDefEqProofs only[aw,ah,V.copy,V.lend,V.lend1,V.cells,V.boxable,over,al,ae,ac,ai,V.plain,Nat.reduceLeDiff,cond_true,cond_false,implies_true,eq_self,ne_eq,reduceIte,reduceCtorEq,Nat.reduceBEq,Nat.reduceLT,Nat.reduceEqDiff,Nat.reduceAdd,Nat.reduceSub,Nat.reduceMul,h4,Int.reduceEq,decide_true,decide_false];first|exact aj hb rfl rfl List.take_length ⟨rfl,rfl⟩|exact aj hb rfl rfl List.take_left ⟨rfl,rfl⟩|(trace_state;fail "fin")
 rw[if_neg h4];by_cases h5:kind=5
 ·rw[if_pos h5];simp -dsimp -implicitDefEqProofs only[aw,ah,V.copy,V.lend,V.lend1,V.cells,V.boxable,over,al,ae,ac,ai,V.plain,Nat.reduceLeDiff,cond_true,cond_false,implies_true,eq_self,ne_eq,reduceIte,reduceCtorEq,Nat.reduceBEq,Nat.reduceLT,Nat.reduceEqDiff,Nat.reduceAdd,Nat.reduceSub,Nat.reduceMul,h5,Int.reduceEq,decide_true,decide_false];first|exact aj hb rfl rfl List.take_length ⟨rfl,rfl⟩|exact aj hb rfl rfl List.take_left ⟨rfl,rfl⟩|(trace_state;fail "fin")
 rw[if_neg h5];by_cases h6:kind=6
 ·rw[if_pos h6];simp -dsimp -implicitDefEqProofs only[aw,ah,V.copy,V.lend,V.lend1,V.cells,V.boxable,over,al,ae,ac,ai,V.plain,Nat.reduceLeDiff,cond_true,cond_false,implies_true,eq_self,ne_eq,reduceIte,reduceCtorEq,Nat.reduceBEq,Nat.reduceLT,Nat.reduceEqDiff,Nat.reduceAdd,Nat.reduceSub,Nat.reduceMul,h6,Int.reduceEq,decide_true,decide_false];first|exact aj hb rfl rfl List.take_length ⟨rfl,rfl⟩|exact aj hb rfl rfl List.take_left ⟨rfl,rfl⟩|(trace_state;fail "fin")
 rw[if_neg h6];simp -dsimp -implicitDefEqProofs only[aw,ah,V.copy,V.lend,V.lend1,V.cells,V.boxable,over,al,ae,ac,ai,V.plain,Nat.reduceLeDiff,cond_true,cond_false,implies_true,eq_self,ne_eq,reduceIte,reduceCtorEq,Nat.reduceBEq,Nat.reduceLT,Nat.reduceEqDiff,Nat.reduceAdd,Nat.reduceSub,Nat.reduceMul,decide_eq_false h2,decide_eq_false h3,decide_eq_false h4,decide_eq_false h5,decide_eq_false h6];first|exact aj hb rfl rfl List.take_length ⟨rfl,rfl⟩|exact aj hb rfl rfl List.take_left ⟨rfl,rfl⟩|(trace_state;fail "fin")
structure PgOk(σ:List (List V))(i:Nat)(t:Option Bs)(k:Nat):Prop where
 at_:σ[i]? = some (pgc i t k)
 k1:k≤200
theorem lr{e:Ex}(h:bB e=0)(hs:bh e≤1100000)(σ:List (List V)):Fun G 121 [vex e] σ (aN (.d (ak (bs (aE e)))) σ):=by
 have hd:=ja e;have:=oQ e (by omega) (by omega) σ;rw[if_pos h]at this;exact this
theorem zS(a b:Bs):[bs a,bs b].flatMap aO=a++b:=by simp[aO,aY]
section
variable (i : Nat) (t : Option Bs) (k : Nat) (x : It) (d : Nat) (σ : List (List V))
theorem xi(hp:PgOk σ i t k)(hsh:aZ x d=0)(hk:x.kind=1)(hz:bh x.ex≤1100000)(hl:(t.getD []).length+(aG k (cw x)).length≤140737488355328):
 Fun G 95 [.ptr i 0,vit x] σ (fun o σ'=>o=.ret (.tup [])∧σ'=σ.set i (pgc i (cI t (aG k (cw x))) k)):=by
 have he:bB x.ex=0:=by have:=ef hsh;rw[if_neg (by omega),if_neg (by omega),if_neg (by omega)]at this;exact this
 have hlns:cw x=[(0,aE x.ex++[59])]:=by rw[cX,if_pos hk]
 rw[hlns,aH,a8,List.append_nil]at hl ⊢;have hi:i<σ.length:=(List.getElem?_eq_some_iff.1 hp.at_).1;have hpr:=fun σ=>lr he hz σ;simp only[aI]at hpr;refine aq Tryz.func95 k95 (by simp only[aP];rfl) fun hb hw=>?_;unfold c95;simp -dsimp -implicitDefEqProofs only[aw,ah,V.copy,V.lend,V.lend1,V.cells,V.boxable,over,al,ae,ac,ai,V.plain,Nat.reduceLeDiff,cond_true,cond_false,implies_true,eq_self,ne_eq,reduceIte,reduceCtorEq,Nat.reduceBEq,Nat.reduceLT,Nat.reduceEqDiff,Nat.reduceAdd,Nat.reduceSub,Nat.reduceMul,aP];refine am (hpr _) ?_;simp -dsimp -implicitDefEqProofs only[aw,ah,V.copy,V.lend,V.lend1,V.cells,V.boxable,over,al,ae,ac,ai,V.plain,Nat.reduceLeDiff,cond_true,cond_false,implies_true,eq_self,ne_eq,reduceIte,reduceCtorEq,Nat.reduceBEq,Nat.reduceLT,Nat.reduceEqDiff,Nat.reduceAdd,Nat.reduceSub,Nat.reduceMul]
 have hl2:=cY i t k [bs (aE x.ex),bs [59]] (by have:=hp.k1;omega) (by rw[zS];exact hl) (by simp);rw[zS]at hl2;refine bQ (hl2 _ (by rw[List.getElem?_append_left hi];exact hp.at_)) ?_;rw[List.set_append_left _ _ hi];simp -dsimp -implicitDefEqProofs only[aw,ah,V.copy,V.lend,V.lend1,V.cells,V.boxable,over,al,ae,ac,ai,V.plain,Nat.reduceLeDiff,cond_true,cond_false,implies_true,eq_self,ne_eq,reduceIte,reduceCtorEq,Nat.reduceBEq,Nat.reduceLT,Nat.reduceEqDiff,Nat.reduceAdd,Nat.reduceSub,Nat.reduceMul];exact da (v:=.tup []) (k:=σ.length) (Nat.le_refl _) (List.take_left' (by simp)) (dF hb (bK hi)) rfl rfl ⟨rfl,rfl⟩
theorem uy(hp:PgOk σ i t k)(hsh:aZ x d=0)(hk:x.kind=2)(hz:bh x.ex≤1100000)(hl:(t.getD []).length+(aG k (cw x)).length≤140737488355328):
 Fun G 90 [.ptr i 0,vit x] σ (fun o σ'=>o=.ret (.tup [])∧σ'=σ.set i (pgc i (cI t (aG k (cw x))) k)):=by
 have he:bB x.ex=0:=by have:=ef hsh;rw[if_neg (by omega),if_neg (by omega),if_neg (by omega)]at this;exact this
 have hlns:cw x=[(0,[115,111,102,116,32]++(aE x.ex++[59]))]:=by rw[cX,if_neg (by omega),if_pos hk]
 rw[hlns,aH,a8,List.append_nil]at hl ⊢;have hi:i<σ.length:=(List.getElem?_eq_some_iff.1 hp.at_).1;have hpr:=fun σ=>lr he hz σ;simp only[aI]at hpr;refine aq Tryz.func90 k90 (by simp only[aP];rfl) fun hb hw=>?_;unfold c90;simp -dsimp -implicitDefEqProofs only[aw,ah,V.copy,V.lend,V.lend1,V.cells,V.boxable,over,al,ae,ac,ai,V.plain,Nat.reduceLeDiff,cond_true,cond_false,implies_true,eq_self,ne_eq,reduceIte,reduceCtorEq,Nat.reduceBEq,Nat.reduceLT,Nat.reduceEqDiff,Nat.reduceAdd,Nat.reduceSub,Nat.reduceMul,aP];refine am (hpr _) ?_;simp -dsimp -implicitDefEqProofs only[aw,ah,V.copy,V.lend,V.lend1,V.cells,V.boxable,over,al,ae,ac,ai,V.plain,Nat.reduceLeDiff,cond_true,cond_false,implies_true,eq_self,ne_eq,reduceIte,reduceCtorEq,Nat.reduceBEq,Nat.reduceLT,Nat.reduceEqDiff,Nat.reduceAdd,Nat.reduceSub,Nat.reduceMul]
 have fl:[bs [115,111,102,116,32],bs (aE x.ex),bs [59]].flatMap aO=[115,111,102,116,32]++(aE x.ex++[59]):=by simp[aO,aY]
 have hl2:=cY i t k [bs [115,111,102,116,32],bs (aE x.ex),bs [59]] (by have:=hp.k1;omega) (by rw[fl];exact hl) (by simp);rw[fl]at hl2;refine bQ (hl2 _ (by rw[List.getElem?_append_left hi];exact hp.at_)) ?_;rw[List.set_append_left _ _ hi];simp -dsimp -implicitDefEqProofs only[aw,ah,V.copy,V.lend,V.lend1,V.cells,V.boxable,over,al,ae,ac,ai,V.plain,Nat.reduceLeDiff,cond_true,cond_false,implies_true,eq_self,ne_eq,reduceIte,reduceCtorEq,Nat.reduceBEq,Nat.reduceLT,Nat.reduceEqDiff,Nat.reduceAdd,Nat.reduceSub,Nat.reduceMul];exact da (v:=.tup []) (k:=σ.length) (Nat.le_refl _) (List.take_left' (by simp)) (dF hb (bK hi)) rfl rfl ⟨rfl,rfl⟩
theorem sX(hp:PgOk σ i t k)(hsh:aZ x d=0)(hk:x.kind=3)(hz:eJ x≤1100000)(hl:(t.getD []).length+(aG k (cw x)).length≤140737488355328):
 Fun G 91 [.ptr i 0,vit x] σ (fun o σ'=>o=.ret (.tup [])∧σ'=σ.set i (pgc i (cI t (aG k (cw x))) k)):=by
 obtain⟨-,hws,hnm⟩:=m9 hsh hk;have hbig:=bU x;have hlns:cw x=[(0,[100,105,115,116,32]++(aO x.name++([32,123,32]++(iG x.ws++[32,125,59]))))]:=by rw[cX,if_neg (by omega),if_neg (by omega),if_pos hk]
 rw[hlns,aH,a8,List.append_nil]at hl ⊢;have hi:i<σ.length:=(List.getElem?_eq_some_iff.1 hp.at_).1;refine aq Tryz.func91 k91 (by simp only[aP];rfl) fun hb hw=>?_;unfold c91;simp -dsimp -implicitDefEqProofs only[aw,ah,V.copy,V.lend,V.lend1,V.cells,V.boxable,over,al,ae,ac,ai,V.plain,Nat.reduceLeDiff,cond_true,cond_false,implies_true,eq_self,ne_eq,reduceIte,reduceCtorEq,Nat.reduceBEq,Nat.reduceLT,Nat.reduceEqDiff,Nat.reduceAdd,Nat.reduceSub,Nat.reduceMul,aP];refine aD (mR x.name hnm _) ?_;simp -dsimp -implicitDefEqProofs only[aw,ah,V.copy,V.lend,V.lend1,V.cells,V.boxable,over,al,ae,ac,ai,V.plain,Nat.reduceLeDiff,cond_true,cond_false,implies_true,eq_self,ne_eq,reduceIte,reduceCtorEq,Nat.reduceBEq,Nat.reduceLT,Nat.reduceEqDiff,Nat.reduceAdd,Nat.reduceSub,Nat.reduceMul]
 refine aD (ir x.ws (fun w hw=>nZ (List.all_eq_true.1 hws w hw)) (by omega) _) ?_;simp -dsimp -implicitDefEqProofs only[aw,ah,V.copy,V.lend,V.lend1,V.cells,V.boxable,over,al,ae,ac,ai,V.plain,Nat.reduceLeDiff,cond_true,cond_false,implies_true,eq_self,ne_eq,reduceIte,reduceCtorEq,Nat.reduceBEq,Nat.reduceLT,Nat.reduceEqDiff,Nat.reduceAdd,Nat.reduceSub,Nat.reduceMul];have fl:[bs [100,105,115,116,32],x.name,bs [32,123,32],bs (iG x.ws),bs [32,125,59]].flatMap aO=[100,105,115,116,32]++(aO x.name++([32,123,32]++(iG x.ws++[32,125,59]))):=by simp[aO,aY]
 have hl2:=cY i t k [bs [100,105,115,116,32],x.name,bs [32,123,32],bs (iG x.ws),bs [32,125,59]] (by have:=hp.k1;omega) (by rw[fl];exact hl) (by simp);rw[fl]at hl2;refine dv (hl2 _ (by rw[List.getElem?_append_left hi];exact hp.at_)) ?_ ?_
 ·simp -dsimp -implicitDefEqProofs only[aw,ah,V.copy,V.lend,V.lend1,V.cells,V.boxable,over,al,ae,ac,ai,V.plain,Nat.reduceLeDiff,cond_true,cond_false,implies_true,eq_self,ne_eq,reduceIte,reduceCtorEq,Nat.reduceBEq,Nat.reduceLT,Nat.reduceEqDiff,Nat.reduceAdd,Nat.reduceSub,Nat.reduceMul]
 rw[List.set_append_left _ _ hi];simp -dsimp -implicitDefEqProofs only[aw,ah,V.copy,V.lend,V.lend1,V.cells,V.boxable,over,al,ae,ac,ai,V.plain,Nat.reduceLeDiff,cond_true,cond_false,implies_true,eq_self,ne_eq,reduceIte,reduceCtorEq,Nat.reduceBEq,Nat.reduceLT,Nat.reduceEqDiff,Nat.reduceAdd,Nat.reduceSub,Nat.reduceMul];exact da (v:=.tup []) (k:=σ.length) (Nat.le_refl _) (List.take_left' (by simp)) (dF hb (bK hi)) rfl rfl ⟨rfl,rfl⟩
theorem qX(hp:PgOk σ i t k)(hsh:aZ x d=0)(hk:x.kind=6)(hz:eJ x≤1100000)(hl:(t.getD []).length+(aG k (cw x)).length≤140737488355328):
 Fun G 94 [.ptr i 0,vit x] σ (fun o σ'=>o=.ret (.tup [])∧σ'=σ.set i (pgc i (cI t (aG k (cw x))) k)):=by
 obtain⟨-,-,hb1,hb2⟩:=lO hsh hk;have hbig:=bU x;have hlns:cw x=[(0,[115,111,108,118,101,32]++(bV [44,32] (x.bef.map aO)++([32,98,101,102,111,114,101,32]++(bV [44,32] (x.aft.map aO)++[59]))))]:=by rw[cX,if_neg (by omega),if_neg (by omega),if_neg (by omega),if_neg (by omega),if_neg (by omega)]
 rw[hlns,aH,a8,List.append_nil]at hl ⊢;have hi:i<σ.length:=(List.getElem?_eq_some_iff.1 hp.at_).1;have f1:=fun σ=>lu x.bef hb1 (by omega) σ;have f2:=fun σ=>lu x.aft hb2 (by omega) σ;simp only[bX]at f1 f2;refine aq Tryz.func94 k94 (by simp only[aP];rfl) fun hb hw=>?_;unfold c94;simp -dsimp -implicitDefEqProofs only[aw,ah,V.copy,V.lend,V.lend1,V.cells,V.boxable,over,al,ae,ac,ai,V.plain,Nat.reduceLeDiff,cond_true,cond_false,implies_true,eq_self,ne_eq,reduceIte,reduceCtorEq,Nat.reduceBEq,Nat.reduceLT,Nat.reduceEqDiff,Nat.reduceAdd,Nat.reduceSub,Nat.reduceMul,aP];refine aD (f1 _) ?_
 simp -dsimp -implicitDefEqProofs only[aw,ah,V.copy,V.lend,V.lend1,V.cells,V.boxable,over,al,ae,ac,ai,V.plain,Nat.reduceLeDiff,cond_true,cond_false,implies_true,eq_self,ne_eq,reduceIte,reduceCtorEq,Nat.reduceBEq,Nat.reduceLT,Nat.reduceEqDiff,Nat.reduceAdd,Nat.reduceSub,Nat.reduceMul];refine aD (f2 _) ?_;simp -dsimp -implicitDefEqProofs only[aw,ah,V.copy,V.lend,V.lend1,V.cells,V.boxable,over,al,ae,ac,ai,V.plain,Nat.reduceLeDiff,cond_true,cond_false,implies_true,eq_self,ne_eq,reduceIte,reduceCtorEq,Nat.reduceBEq,Nat.reduceLT,Nat.reduceEqDiff,Nat.reduceAdd,Nat.reduceSub,Nat.reduceMul];generalize bV [44,32] (x.bef.map aO)=L1 at *;generalize bV [44,32] (x.aft.map aO)=L2 at *
 have fl:[bs [115,111,108,118,101,32],bs L1,bs [32,98,101,102,111,114,101,32],bs L2,bs [59]].flatMap aO=[115,111,108,118,101,32]++(L1++([32,98,101,102,111,114,101,32]++(L2++[59]))):=by simp[aO,aY]
 have hl2:=cY i t k [bs [115,111,108,118,101,32],bs L1,bs [32,98,101,102,111,114,101,32],bs L2,bs [59]] (by have:=hp.k1;omega) (by rw[fl];exact hl) (by simp);rw[fl]at hl2;refine dv (hl2 _ (by rw[List.getElem?_append_left hi];exact hp.at_)) ?_ ?_
 ·simp -dsimp -implicitDefEqProofs only[aw,ah,V.copy,V.lend,V.lend1,V.cells,V.boxable,over,al,ae,ac,ai,V.plain,Nat.reduceLeDiff,cond_true,cond_false,implies_true,eq_self,ne_eq,reduceIte,reduceCtorEq,Nat.reduceBEq,Nat.reduceLT,Nat.reduceEqDiff,Nat.reduceAdd,Nat.reduceSub,Nat.reduceMul]
 rw[List.set_append_left _ _ hi];simp -dsimp -implicitDefEqProofs only[aw,ah,V.copy,V.lend,V.lend1,V.cells,V.boxable,over,al,ae,ac,ai,V.plain,Nat.reduceLeDiff,cond_true,cond_false,implies_true,eq_self,ne_eq,reduceIte,reduceCtorEq,Nat.reduceBEq,Nat.reduceLT,Nat.reduceEqDiff,Nat.reduceAdd,Nat.reduceSub,Nat.reduceMul];exact da (v:=.tup []) (k:=σ.length) (Nat.le_refl _) (List.take_left' (by simp)) (dF hb (bK hi)) rfl rfl ⟨rfl,rfl⟩
end
end Go.Proofs.YtcbahpllcfbkmaaGreatDoor
