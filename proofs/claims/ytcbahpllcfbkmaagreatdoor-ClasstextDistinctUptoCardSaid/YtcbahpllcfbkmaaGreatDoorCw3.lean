import Derived.Test.YtcbahpllcfbkmaaGreatDoorEt3
import Derived.Test.YtcbahpllcfbkmaaGreatDoorCw2
set_option linter.unusedVariables false
set_option linter.unusedSimpArgs false
set_option linter.unusedSectionVars false
namespace Go.Proofs.YtcbahpllcfbkmaaGreatDoor
open Go.RowKit
theorem xE{e:Ex}(h:bU e=0):b8 e=0∧ba e≤400:=by
 unfold bU at h;split at h
 ·cases h
 ·rename_i hn;exact⟨h,by omega⟩
theorem rf(e:Ex)(hs:ba e≤1200000)(hd:bP e≤1200000)(σ:List (List V)):Fun G 121 [vex e] σ (aZ (.d (an (bs (if bU e=0 then aF e else[])))) σ):=by
 have hv:=lA e hs hd;refine ay Tryz.func121 Iw (by simp only[be];rfl) fun hb hw=>?_;unfold FS;simp -dsimp -implicitDefEqProofs only[aw,ah,V.copy,V.lend,V.lend1,V.cells,V.boxable,over,ak,ae,ac,ai,V.plain,Nat.reduceLeDiff,cond_true,cond_false,implies_true,eq_self,ne_eq,reduceIte,reduceCtorEq,Nat.reduceBEq,Nat.reduceLT,Nat.reduceEqDiff,Nat.reduceAdd,Nat.reduceSub,Nat.reduceMul,be];refine aq (by simpa only[be]using hv _) ?_;by_cases h:bU e=0
 ·rw[if_pos h];have he:=xE h;have hlen:=kP e he.1;have hT:=yP e he.1 (by omega);generalize aF e=T at *;simp -dsimp -implicitDefEqProofs only[aw,ah,V.copy,V.lend,V.lend1,V.cells,V.boxable,over,ak,ae,ac,ai,V.plain,Nat.reduceLeDiff,cond_true,cond_false,implies_true,eq_self,ne_eq,reduceIte,reduceCtorEq,Nat.reduceBEq,Nat.reduceLT,Nat.reduceEqDiff,Nat.reduceAdd,Nat.reduceSub,Nat.reduceMul,decide_eq_true h];refine aq (by simpa only[be]using hT _) ?_;simp -dsimp -implicitDefEqProofs only[aw,ah,V.copy,V.lend,V.lend1,V.cells,V.boxable,over,ak,ae,ac,ai,V.plain,Nat.reduceLeDiff,cond_true,cond_false,implies_true,eq_self,ne_eq,reduceIte,reduceCtorEq,Nat.reduceBEq,Nat.reduceLT,Nat.reduceEqDiff,Nat.reduceAdd,Nat.reduceSub,Nat.reduceMul]
  first|exact aj hb rfl rfl List.take_length ⟨rfl,rfl⟩|exact aj hb rfl rfl List.take_left ⟨rfl,rfl⟩|(trace_state;fail "fin")
 ·rw[if_neg h];simp -dsimp -implicitDefEqProofs only[aw,ah,V.copy,V.lend,V.lend1,V.cells,V.boxable,over,ak,ae,ac,ai,V.plain,Nat.reduceLeDiff,cond_true,cond_false,implies_true,eq_self,ne_eq,reduceIte,reduceCtorEq,Nat.reduceBEq,Nat.reduceLT,Nat.reduceEqDiff,Nat.reduceAdd,Nat.reduceSub,Nat.reduceMul,decide_eq_false h];first|exact aj hb rfl rfl List.take_length ⟨rfl,rfl⟩|exact aj hb rfl rfl List.take_left ⟨rfl,rfl⟩|(trace_state;fail "fin")
def cP(t:Option Bs)(x:Bs):Option Bs:=match t with|some u=>some (u++x)|none=>if x=[]then none else some x
theorem qn(t:Option Bs){x:Bs}(h:x≠[]):some (t.getD []++x)=cP t x:=by
 cases t with
 | none=>simp[cP,h]
 | some u=>rfl
theorem gL(u x:Bs):cP (some u) x=some (u++x):=rfl
theorem AE(t:Option Bs):cP t []=t:=by
 cases t with
 | none=>rfl
 | some u=>simp[cP]
theorem eY(t:Option Bs)(x y:Bs):cP (cP t x) y=cP t (x++y):=by
 cases t with
 | none=>
  by_cases h:x=[]
  ·subst h;simp[cP]
  ·simp[cP,h]
 | some u=>simp[cP]
theorem xR(t:Option Bs)(x:Bs):((cP t x).getD []).length=(t.getD []).length+x.length:=by
 cases t with
 | none=>
  by_cases h:x=[]
  ·subst h;rfl
  ·simp[cP,h]
 | some u=>simp[cP]
theorem dg(i:Nat)(t:Option Bs)(k:Nat)(ps:List ByteArray)(hk:k≤1000)(hl:(t.getD []).length+(lnT k (0,ps.flatMap aG)).length≤140737488355328)(hp:ps.length≤1000)(σ:List (List V))(hs:σ[i]? = some (pgc i t k)):
 Fun G 28 [.ptr i 0,.d (cT ps)] σ (fun o σ'=>o=.ret (.tup [])∧σ'=σ.set i (pgc i (cP t (lnT k (0,ps.flatMap aG))) k)):=by
 have h:=Am i t k ps hk (by rw[ec]at hl;simp only at hl;omega) hp σ hs;rw[qn t (x:=blk k++(ps.flatMap aG++[10])) (by simp)]at h;exact h
theorem eH(i:Nat)(t t':Bs)(k:Nat)(hk:k≤1000)(f:FuncId)(cap:List V)(σ:List (List V))(hs:σ[i]? = some (pgc i (some t) k))
 (h:Fun G f cap (σ.set i (pgc i (some t) ((k+1:Nat):Int))) (fun o σ'=>o=.ret (.tup [])∧σ'=σ.set i (pgc i (some t') ((k+1:Nat):Int)))):
 Fun G 29 [.ptr i 0,.fn f cap] σ (fun o σ'=>o=.ret (.tup [])∧σ'=σ.set i (pgc i (some t') k)):=by
 refine ay Tryz.func29 k29 rfl fun hb hw=>?_;have hi:i<σ.length:=(List.getElem?_eq_some_iff.1 hs).1;have h1:∀X:List V,(σ.set i X)[i]? = some X:=fun X=>List.getElem?_set_self hi;have h2:∀X Y:List V,(σ.set i X).set i Y=σ.set i Y:=fun X Y=>List.set_set X;have hs':σ[i]? = some [.ptr i 0,.own U8 1 (dbs t),.d (az k)]:=hs;have w1:IntKind.i64.wrap ((k:Int)+1)=((k+1:Nat):Int):=by rw[bD (by omega) (by omega)];omega
 have w2:IntKind.i64.wrap (((k+1:Nat):Int)-1)=(k:Int):=by rw[bD (by omega) (by omega)];omega
 unfold c29;simp -dsimp -implicitDefEqProofs only[aw,ah,V.copy,V.lend,V.lend1,V.cells,V.boxable,over,ak,ae,ac,ai,V.plain,Nat.reduceLeDiff,cond_true,cond_false,implies_true,eq_self,ne_eq,reduceIte,reduceCtorEq,Nat.reduceBEq,Nat.reduceLT,Nat.reduceEqDiff,Nat.reduceAdd,Nat.reduceSub,Nat.reduceMul,hs',w1];refine bV (σ1:=σ.set i (pgc i (some t') ((k+1:Nat):Int))) h ?_;have h3:(σ.set i (pgc i (some t') ((k+1:Nat):Int)))[i]? = some [.ptr i 0,.own U8 1 (dbs t'),.d (az ((k+1:Nat):Int))]:=h1 _;simp -dsimp -implicitDefEqProofs only[aw,ah,V.copy,V.lend,V.lend1,V.cells,V.boxable,over,ak,ae,ac,ai,V.plain,Nat.reduceLeDiff,cond_true,cond_false,implies_true,eq_self,ne_eq,reduceIte,reduceCtorEq,Nat.reduceBEq,Nat.reduceLT,Nat.reduceEqDiff,Nat.reduceAdd,Nat.reduceSub,Nat.reduceMul,h3,w2,h2]
 exact dx (v:=.tup []) (k:=σ.length) (Nat.le_refl _) (List.take_of_length_le (by simp)) (d5 hb (bQ (t:=some t') (k:=k) hi)) rfl rfl ⟨rfl,rfl⟩
def wrF(kind:Int):FuncId:=if kind=2 then 90 else if kind=3 then 91 else if kind=4 then 92 else if kind=5 then 93 else if kind=6 then 94 else 95
theorem si(kind:Int)(σ:List (List V)):Fun G 59 [.d (az kind)] σ (aZ (.fn (wrF kind) []) σ):=by
 refine ay Tryz.func59 k59 rfl fun hb hw=>?_;unfold c59 wrF;by_cases h2:kind=2
 ·rw[if_pos h2];simp -dsimp -implicitDefEqProofs only[aw,ah,V.copy,V.lend,V.lend1,V.cells,V.boxable,over,ak,ae,ac,ai,V.plain,Nat.reduceLeDiff,cond_true,cond_false,implies_true,eq_self,ne_eq,reduceIte,reduceCtorEq,Nat.reduceBEq,Nat.reduceLT,Nat.reduceEqDiff,Nat.reduceAdd,Nat.reduceSub,Nat.reduceMul,h2,Int.reduceEq,decide_true,decide_false];first|exact aj hb rfl rfl List.take_length ⟨rfl,rfl⟩|exact aj hb rfl rfl List.take_left ⟨rfl,rfl⟩|(trace_state;fail "fin")
 rw[if_neg h2];by_cases h3:kind=3
 ·rw[if_pos h3];simp -dsimp -implicitDefEqProofs only[aw,ah,V.copy,V.lend,V.lend1,V.cells,V.boxable,over,ak,ae,ac,ai,V.plain,Nat.reduceLeDiff,cond_true,cond_false,implies_true,eq_self,ne_eq,reduceIte,reduceCtorEq,Nat.reduceBEq,Nat.reduceLT,Nat.reduceEqDiff,Nat.reduceAdd,Nat.reduceSub,Nat.reduceMul,h3,Int.reduceEq,decide_true,decide_false];first|exact aj hb rfl rfl List.take_length ⟨rfl,rfl⟩|exact aj hb rfl rfl List.take_left ⟨rfl,rfl⟩|(trace_state;fail "fin")
 rw[if_neg h3];by_cases h4:kind=4
 ·rw[if_pos h4];simp -dsimp -implicitDefEqProofs only[aw,ah,V.copy,V.lend,V.lend1,V.cells,V.boxable,over,ak,ae,ac,ai,V.plain,Nat.reduceLeDiff,cond_true,cond_false,implies_true,eq_self,ne_eq,reduceIte,reduceCtorEq,Nat.reduceBEq,Nat.reduceLT,Nat.reduceEqDiff,Nat.reduceAdd,Nat.reduceSub,Nat.reduceMul,h4,Int.reduceEq,decide_true,decide_false];first|exact aj hb rfl rfl List.take_length ⟨rfl,rfl⟩|exact aj hb rfl rfl List.take_left ⟨rfl,rfl⟩|(trace_state;fail "fin")
 rw[if_neg h4];by_cases h5:kind=5
 ·rw[if_pos h5];simp -dsimp -implicitDefEqProofs only[aw,ah,V.copy,V.lend,V.lend1,V.cells,V.boxable,over,ak,ae,ac,ai,V.plain,Nat.reduceLeDiff,cond_true,cond_false,implies_true,eq_self,ne_eq,reduceIte,reduceCtorEq,Nat.reduceBEq,Nat.reduceLT,Nat.reduceEqDiff,Nat.reduceAdd,Nat.reduceSub,Nat.reduceMul,h5,Int.reduceEq,decide_true,decide_false];first|exact aj hb rfl rfl List.take_length ⟨rfl,rfl⟩|exact aj hb rfl rfl List.take_left ⟨rfl,rfl⟩|(trace_state;fail "fin")
 rw[if_neg h5];by_cases h6:kind=6
 ·rw[if_pos h6];simp -dsimp -implicitDefEqProofs only[aw,ah,V.copy,V.lend,V.lend1,V.cells,V.boxable,over,ak,ae,ac,ai,V.plain,Nat.reduceLeDiff,cond_true,cond_false,implies_true,eq_self,ne_eq,reduceIte,reduceCtorEq,Nat.reduceBEq,Nat.reduceLT,Nat.reduceEqDiff,Nat.reduceAdd,Nat.reduceSub,Nat.reduceMul,h6,Int.reduceEq,decide_true,decide_false];first|exact aj hb rfl rfl List.take_length ⟨rfl,rfl⟩|exact aj hb rfl rfl List.take_left ⟨rfl,rfl⟩|(trace_state;fail "fin")
 rw[if_neg h6];simp -dsimp -implicitDefEqProofs only[aw,ah,V.copy,V.lend,V.lend1,V.cells,V.boxable,over,ak,ae,ac,ai,V.plain,Nat.reduceLeDiff,cond_true,cond_false,implies_true,eq_self,ne_eq,reduceIte,reduceCtorEq,Nat.reduceBEq,Nat.reduceLT,Nat.reduceEqDiff,Nat.reduceAdd,Nat.reduceSub,Nat.reduceMul,decide_eq_false h2,decide_eq_false h3,decide_eq_false h4,decide_eq_false h5,decide_eq_false h6];first|exact aj hb rfl rfl List.take_length ⟨rfl,rfl⟩|exact aj hb rfl rfl List.take_left ⟨rfl,rfl⟩|(trace_state;fail "fin")
structure PgOk(σ:List (List V))(i:Nat)(t:Option Bs)(k:Nat):Prop where
 at_:σ[i]? = some (pgc i t k)
 k1:k≤200
theorem nv{e:Ex}(h:bU e=0)(hs:ba e≤1100000)(σ:List (List V)):Fun G 121 [vex e] σ (aZ (.d (an (bs (aF e)))) σ):=by
 have hd:=na e;have:=rf e (by omega) (by omega) σ;rw[if_pos h]at this;exact this
theorem C4(a b:Bs):[bs a,bs b].flatMap aG=a++b:=by simp[aG,bH]
section
variable (i : Nat) (t : Option Bs) (k : Nat) (x : It) (d : Nat) (σ : List (List V))
theorem zO(hp:PgOk σ i t k)(hsh:aR x d=0)(hk:x.kind=1)(hz:ba x.ex≤1100000)(hl:(t.getD []).length+(aX k (eZ x)).length≤140737488355328):
 Fun G 95 [.ptr i 0,vit x] σ (fun o σ'=>o=.ret (.tup [])∧σ'=σ.set i (pgc i (cP t (aX k (eZ x))) k)):=by
 have he:bU x.ex=0:=by have:=g9 hsh;rw[if_neg (by omega),if_neg (by omega),if_neg (by omega)]at this;exact this
 have hlns:eZ x=[(0,aF x.ex++[59])]:=by rw[ft,if_pos hk]
 rw[hlns,bc,bE,List.append_nil]at hl ⊢;have hi:i<σ.length:=(List.getElem?_eq_some_iff.1 hp.at_).1;have hpr:=fun σ=>nv he hz σ;simp only[be]at hpr;refine ay Tryz.func95 k95 (by simp only[aV];rfl) fun hb hw=>?_;unfold c95;simp -dsimp -implicitDefEqProofs only[aw,ah,V.copy,V.lend,V.lend1,V.cells,V.boxable,over,ak,ae,ac,ai,V.plain,Nat.reduceLeDiff,cond_true,cond_false,implies_true,eq_self,ne_eq,reduceIte,reduceCtorEq,Nat.reduceBEq,Nat.reduceLT,Nat.reduceEqDiff,Nat.reduceAdd,Nat.reduceSub,Nat.reduceMul,aV];refine aq (hpr _) ?_;simp -dsimp -implicitDefEqProofs only[aw,ah,V.copy,V.lend,V.lend1,V.cells,V.boxable,over,ak,ae,ac,ai,V.plain,Nat.reduceLeDiff,cond_true,cond_false,implies_true,eq_self,ne_eq,reduceIte,reduceCtorEq,Nat.reduceBEq,Nat.reduceLT,Nat.reduceEqDiff,Nat.reduceAdd,Nat.reduceSub,Nat.reduceMul]
 have hl2:=dg i t k [bs (aF x.ex),bs [59]] (by have:=hp.k1;omega) (by rw[C4];exact hl) (by simp);rw[C4]at hl2;refine bV (hl2 _ (by rw[List.getElem?_append_left hi];exact hp.at_)) ?_;rw[List.set_append_left _ _ hi];simp -dsimp -implicitDefEqProofs only[aw,ah,V.copy,V.lend,V.lend1,V.cells,V.boxable,over,ak,ae,ac,ai,V.plain,Nat.reduceLeDiff,cond_true,cond_false,implies_true,eq_self,ne_eq,reduceIte,reduceCtorEq,Nat.reduceBEq,Nat.reduceLT,Nat.reduceEqDiff,Nat.reduceAdd,Nat.reduceSub,Nat.reduceMul];exact dx (v:=.tup []) (k:=σ.length) (Nat.le_refl _) (List.take_left' (by simp)) (d5 hb (bQ hi)) rfl rfl ⟨rfl,rfl⟩
theorem za(hp:PgOk σ i t k)(hsh:aR x d=0)(hk:x.kind=2)(hz:ba x.ex≤1100000)(hl:(t.getD []).length+(aX k (eZ x)).length≤140737488355328):
 Fun G 90 [.ptr i 0,vit x] σ (fun o σ'=>o=.ret (.tup [])∧σ'=σ.set i (pgc i (cP t (aX k (eZ x))) k)):=by
 have he:bU x.ex=0:=by have:=g9 hsh;rw[if_neg (by omega),if_neg (by omega),if_neg (by omega)]at this;exact this
 have hlns:eZ x=[(0,[115,111,102,116,32]++(aF x.ex++[59]))]:=by rw[ft,if_neg (by omega),if_pos hk]
 rw[hlns,bc,bE,List.append_nil]at hl ⊢;have hi:i<σ.length:=(List.getElem?_eq_some_iff.1 hp.at_).1;have hpr:=fun σ=>nv he hz σ;simp only[be]at hpr;refine ay Tryz.func90 k90 (by simp only[aV];rfl) fun hb hw=>?_;unfold c90;simp -dsimp -implicitDefEqProofs only[aw,ah,V.copy,V.lend,V.lend1,V.cells,V.boxable,over,ak,ae,ac,ai,V.plain,Nat.reduceLeDiff,cond_true,cond_false,implies_true,eq_self,ne_eq,reduceIte,reduceCtorEq,Nat.reduceBEq,Nat.reduceLT,Nat.reduceEqDiff,Nat.reduceAdd,Nat.reduceSub,Nat.reduceMul,aV];refine aq (hpr _) ?_;simp -dsimp -implicitDefEqProofs only[aw,ah,V.copy,V.lend,V.lend1,V.cells,V.boxable,over,ak,ae,ac,ai,V.plain,Nat.reduceLeDiff,cond_true,cond_false,implies_true,eq_self,ne_eq,reduceIte,reduceCtorEq,Nat.reduceBEq,Nat.reduceLT,Nat.reduceEqDiff,Nat.reduceAdd,Nat.reduceSub,Nat.reduceMul]
 have fl:[bs [115,111,102,116,32],bs (aF x.ex),bs [59]].flatMap aG=[115,111,102,116,32]++(aF x.ex++[59]):=by simp[aG,bH]
 have hl2:=dg i t k [bs [115,111,102,116,32],bs (aF x.ex),bs [59]] (by have:=hp.k1;omega) (by rw[fl];exact hl) (by simp);rw[fl]at hl2;refine bV (hl2 _ (by rw[List.getElem?_append_left hi];exact hp.at_)) ?_;rw[List.set_append_left _ _ hi];simp -dsimp -implicitDefEqProofs only[aw,ah,V.copy,V.lend,V.lend1,V.cells,V.boxable,over,ak,ae,ac,ai,V.plain,Nat.reduceLeDiff,cond_true,cond_false,implies_true,eq_self,ne_eq,reduceIte,reduceCtorEq,Nat.reduceBEq,Nat.reduceLT,Nat.reduceEqDiff,Nat.reduceAdd,Nat.reduceSub,Nat.reduceMul];exact dx (v:=.tup []) (k:=σ.length) (Nat.le_refl _) (List.take_left' (by simp)) (d5 hb (bQ hi)) rfl rfl ⟨rfl,rfl⟩
theorem uT(hp:PgOk σ i t k)(hsh:aR x d=0)(hk:x.kind=3)(hz:fY x≤1100000)(hl:(t.getD []).length+(aX k (eZ x)).length≤140737488355328):
 Fun G 91 [.ptr i 0,vit x] σ (fun o σ'=>o=.ret (.tup [])∧σ'=σ.set i (pgc i (cP t (aX k (eZ x))) k)):=by
 obtain⟨-,hws,hnm⟩:=kC hsh hk;have hbig:=cA x;have hlns:eZ x=[(0,[100,105,115,116,32]++(aG x.name++([32,123,32]++(gN x.ws++[32,125,59]))))]:=by rw[ft,if_neg (by omega),if_neg (by omega),if_pos hk]
 rw[hlns,bc,bE,List.append_nil]at hl ⊢;have hi:i<σ.length:=(List.getElem?_eq_some_iff.1 hp.at_).1;refine ay Tryz.func91 k91 (by simp only[aV];rfl) fun hb hw=>?_;unfold c91;simp -dsimp -implicitDefEqProofs only[aw,ah,V.copy,V.lend,V.lend1,V.cells,V.boxable,over,ak,ae,ac,ai,V.plain,Nat.reduceLeDiff,cond_true,cond_false,implies_true,eq_self,ne_eq,reduceIte,reduceCtorEq,Nat.reduceBEq,Nat.reduceLT,Nat.reduceEqDiff,Nat.reduceAdd,Nat.reduceSub,Nat.reduceMul,aV];refine aK (om x.name hnm _) ?_;simp -dsimp -implicitDefEqProofs only[aw,ah,V.copy,V.lend,V.lend1,V.cells,V.boxable,over,ak,ae,ac,ai,V.plain,Nat.reduceLeDiff,cond_true,cond_false,implies_true,eq_self,ne_eq,reduceIte,reduceCtorEq,Nat.reduceBEq,Nat.reduceLT,Nat.reduceEqDiff,Nat.reduceAdd,Nat.reduceSub,Nat.reduceMul]
 refine aK (jH x.ws (fun w hw=>xS (List.all_eq_true.1 hws w hw)) (by omega) _) ?_;simp -dsimp -implicitDefEqProofs only[aw,ah,V.copy,V.lend,V.lend1,V.cells,V.boxable,over,ak,ae,ac,ai,V.plain,Nat.reduceLeDiff,cond_true,cond_false,implies_true,eq_self,ne_eq,reduceIte,reduceCtorEq,Nat.reduceBEq,Nat.reduceLT,Nat.reduceEqDiff,Nat.reduceAdd,Nat.reduceSub,Nat.reduceMul];have fl:[bs [100,105,115,116,32],x.name,bs [32,123,32],bs (gN x.ws),bs [32,125,59]].flatMap aG=[100,105,115,116,32]++(aG x.name++([32,123,32]++(gN x.ws++[32,125,59]))):=by simp[aG,bH]
 have hl2:=dg i t k [bs [100,105,115,116,32],x.name,bs [32,123,32],bs (gN x.ws),bs [32,125,59]] (by have:=hp.k1;omega) (by rw[fl];exact hl) (by simp);rw[fl]at hl2;refine dR (hl2 _ (by rw[List.getElem?_append_left hi];exact hp.at_)) ?_ ?_
 ·simp -dsimp -implicitDefEqProofs only[aw,ah,V.copy,V.lend,V.lend1,V.cells,V.boxable,over,ak,ae,ac,ai,V.plain,Nat.reduceLeDiff,cond_true,cond_false,implies_true,eq_self,ne_eq,reduceIte,reduceCtorEq,Nat.reduceBEq,Nat.reduceLT,Nat.reduceEqDiff,Nat.reduceAdd,Nat.reduceSub,Nat.reduceMul]
 rw[List.set_append_left _ _ hi];simp -dsimp -implicitDefEqProofs only[aw,ah,V.copy,V.lend,V.lend1,V.cells,V.boxable,over,ak,ae,ac,ai,V.plain,Nat.reduceLeDiff,cond_true,cond_false,implies_true,eq_self,ne_eq,reduceIte,reduceCtorEq,Nat.reduceBEq,Nat.reduceLT,Nat.reduceEqDiff,Nat.reduceAdd,Nat.reduceSub,Nat.reduceMul];exact dx (v:=.tup []) (k:=σ.length) (Nat.le_refl _) (List.take_left' (by simp)) (d5 hb (bQ hi)) rfl rfl ⟨rfl,rfl⟩
theorem sH(hp:PgOk σ i t k)(hsh:aR x d=0)(hk:x.kind=6)(hz:fY x≤1100000)(hl:(t.getD []).length+(aX k (eZ x)).length≤140737488355328):
 Fun G 94 [.ptr i 0,vit x] σ (fun o σ'=>o=.ret (.tup [])∧σ'=σ.set i (pgc i (cP t (aX k (eZ x))) k)):=by
 obtain⟨-,-,hb1,hb2⟩:=iJ hsh hk;have hbig:=cA x;have hlns:eZ x=[(0,[115,111,108,118,101,32]++(cd [44,32] (x.bef.map aG)++([32,98,101,102,111,114,101,32]++(cd [44,32] (x.aft.map aG)++[59]))))]:=by rw[ft,if_neg (by omega),if_neg (by omega),if_neg (by omega),if_neg (by omega),if_neg (by omega)]
 rw[hlns,bc,bE,List.append_nil]at hl ⊢;have hi:i<σ.length:=(List.getElem?_eq_some_iff.1 hp.at_).1;have f1:=fun σ=>mP x.bef hb1 (by omega) σ;have f2:=fun σ=>mP x.aft hb2 (by omega) σ;simp only[cT]at f1 f2;refine ay Tryz.func94 k94 (by simp only[aV];rfl) fun hb hw=>?_;unfold c94;simp -dsimp -implicitDefEqProofs only[aw,ah,V.copy,V.lend,V.lend1,V.cells,V.boxable,over,ak,ae,ac,ai,V.plain,Nat.reduceLeDiff,cond_true,cond_false,implies_true,eq_self,ne_eq,reduceIte,reduceCtorEq,Nat.reduceBEq,Nat.reduceLT,Nat.reduceEqDiff,Nat.reduceAdd,Nat.reduceSub,Nat.reduceMul,aV];refine aK (f1 _) ?_
 simp -dsimp -implicitDefEqProofs only[aw,ah,V.copy,V.lend,V.lend1,V.cells,V.boxable,over,ak,ae,ac,ai,V.plain,Nat.reduceLeDiff,cond_true,cond_false,implies_true,eq_self,ne_eq,reduceIte,reduceCtorEq,Nat.reduceBEq,Nat.reduceLT,Nat.reduceEqDiff,Nat.reduceAdd,Nat.reduceSub,Nat.reduceMul];refine aK (f2 _) ?_;simp -dsimp -implicitDefEqProofs only[aw,ah,V.copy,V.lend,V.lend1,V.cells,V.boxable,over,ak,ae,ac,ai,V.plain,Nat.reduceLeDiff,cond_true,cond_false,implies_true,eq_self,ne_eq,reduceIte,reduceCtorEq,Nat.reduceBEq,Nat.reduceLT,Nat.reduceEqDiff,Nat.reduceAdd,Nat.reduceSub,Nat.reduceMul];generalize cd [44,32] (x.bef.map aG)=L1 at *;generalize cd [44,32] (x.aft.map aG)=L2 at *
 have fl:[bs [115,111,108,118,101,32],bs L1,bs [32,98,101,102,111,114,101,32],bs L2,bs [59]].flatMap aG=[115,111,108,118,101,32]++(L1++([32,98,101,102,111,114,101,32]++(L2++[59]))):=by simp[aG,bH]
 have hl2:=dg i t k [bs [115,111,108,118,101,32],bs L1,bs [32,98,101,102,111,114,101,32],bs L2,bs [59]] (by have:=hp.k1;omega) (by rw[fl];exact hl) (by simp);rw[fl]at hl2;refine dR (hl2 _ (by rw[List.getElem?_append_left hi];exact hp.at_)) ?_ ?_
 ·simp -dsimp -implicitDefEqProofs only[aw,ah,V.copy,V.lend,V.lend1,V.cells,V.boxable,over,ak,ae,ac,ai,V.plain,Nat.reduceLeDiff,cond_true,cond_false,implies_true,eq_self,ne_eq,reduceIte,reduceCtorEq,Nat.reduceBEq,Nat.reduceLT,Nat.reduceEqDiff,Nat.reduceAdd,Nat.reduceSub,Nat.reduceMul]
 rw[List.set_append_left _ _ hi];simp -dsimp -implicitDefEqProofs only[aw,ah,V.copy,V.lend,V.lend1,V.cells,V.boxable,over,ak,ae,ac,ai,V.plain,Nat.reduceLeDiff,cond_true,cond_false,implies_true,eq_self,ne_eq,reduceIte,reduceCtorEq,Nat.reduceBEq,Nat.reduceLT,Nat.reduceEqDiff,Nat.reduceAdd,Nat.reduceSub,Nat.reduceMul];exact dx (v:=.tup []) (k:=σ.length) (Nat.le_refl _) (List.take_left' (by simp)) (d5 hb (bQ hi)) rfl rfl ⟨rfl,rfl⟩
end
end Go.Proofs.YtcbahpllcfbkmaaGreatDoor
