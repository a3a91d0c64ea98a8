import Derived.Test.YtcbahpllcfbkmaaGreatDoorCw6
set_option linter.unusedVariables false
set_option linter.unusedSimpArgs false
set_option linter.unusedSectionVars false
namespace Go.Proofs.YtcbahpllcfbkmaaGreatDoor
open Go.RowKit
structure FlV(f:Fl):Prop where
 nm:aD f.name=true
 w0:1≤f.width
 w1:f.width≤8
 s0:0≤f.size
 s1:f.size≤8
 md:f.mode=0∨f.mode=1∨f.mode=2
 i0:0≤f.init
 i1:f.init≤255
 i2:f.mode≠0→f.init=0
theorem DH{f:Fl}(h:la f=0):FlV f:=by
 unfold la at h;by_cases h1:aD f.name=false
 ·rw[if_pos h1]at h;omega
 rw[if_neg h1]at h;by_cases h2:f.width<1∨8<f.width∨f.size<0∨8<f.size
 ·rw[if_pos h2]at h;omega
 rw[if_neg h2]at h;by_cases h3:f.mode≠0∧f.mode≠1∧f.mode≠2
 ·rw[if_pos h3]at h;omega
 rw[if_neg h3]at h;by_cases h4:f.size≠0∧f.mode=2
 ·rw[if_pos h4]at h;omega
 rw[if_neg h4]at h;by_cases h5:f.init<0∨(if f.mode=0 then 2^f.width.toNat-1 else 0)<f.init
 ·rw[if_pos h5]at h;omega
 have hw:1≤f.width∧f.width≤8:=by omega
 obtain⟨-,q2,q3⟩:=qb hw.1 hw.2;have hm:f.mode=0∨f.mode=1∨f.mode=2:=by omega
 refine⟨by cases hn:aD f.name<;>simp_all,hw.1,hw.2,by omega,by omega,hm,by omega,?_,?_⟩
 ·by_cases m0:f.mode=0
  ·rw[if_pos m0]at h5;omega
  ·rw[if_neg m0]at h5;omega
 ·intro m0;rw[if_neg m0]at h5;omega
theorem FlV.ok{f:Fl}(h:FlV f):FlOk f:=⟨h.nm,by have:=h.w0;omega,h.s0,h.md,h.i0,h.i2⟩
theorem AF(m:Int):(fo m).length≤6:=by
 unfold fo;split
 ·simp
 ·split<;>simp
theorem Ab{f:Fl}(h:FlV f):(ez f).length≤60:=by
 have h1:=AF f.mode;have h2:=cq h.nm;have h3:=jj (n:=f.size) h.s0 (by have:=h.s1;omega);have h4:=jj (n:=f.width) (by have:=h.w0;omega) (by have:=h.w1;omega);have h5:=jj (n:=f.init) h.i0 (by have:=h.i1;omega);unfold ez aG;split<;>split<;>simp only[List.length_append,List.length_cons,List.length_nil]<;>omega
set_option maxHeartbeats 4000000 in
theorem tP(i:Nat)(t:Option Bs)(k:Nat)(f:Fl)(σ:List (List V))(hp:PgOk σ i t k)(hv:FlV f)(hl:(t.getD []).length+(lnT k (0,ez f)).length≤140737488355328):
 Fun G 31 [.ptr i 0,.agg ((dfl f).map V.d)] σ (fun o σ'=>o=.ret (.tup [])∧σ'=σ.set i (pgc i (cP t (lnT k (0,ez f))) k)):=by
 have hi:i<σ.length:=(List.getElem?_eq_some_iff.1 hp.at_).1;have k1:=hp.k1;have n1 : -9223372036854775808≤f.size∧f.size≤9223372036854775807:=by have:=hv.s0;have:=hv.s1;omega
 have n2 : -9223372036854775808≤f.width∧f.width≤9223372036854775807:=by have:=hv.w0;have:=hv.w1;omega
 have n3 : -9223372036854775808≤f.init∧f.init≤9223372036854775807:=by have:=hv.i0;have:=hv.i1;omega
 have f1:=fun σ=>cz f.size n1.1 n1.2 σ;have f2:=fun σ=>cz f.width n2.1 n2.2 σ;have f3:=fun σ=>cz f.init n3.1 n3.2 σ;have l1:=d9 n1.1 n1.2;have l3:=d9 n3.1 n3.2;obtain⟨S,hS⟩:∃S,S=(if 0<f.size then 91::(b9 f.size++[93])else[]):=⟨_,rfl⟩
 obtain⟨W,hW⟩:∃W,W=(if f.mode=0 then[32,61,32]++b9 f.init else[]):=⟨_,rfl⟩
 have hF:ez f=fo f.mode++(aG f.name++(S++([32,58,32]++(b9 f.width++(W++[59]))))):=by rw[hS,hW];rfl
 have fl:[bs (fo f.mode),f.name,bs S,bs [32,58,32],bs (Lib.itoa f.width),bs W,bs [59]].flatMap aG=ez f:=by rw[hF];simp[aG,bH,b9]
 have hL:=dg i t k [bs (fo f.mode),f.name,bs S,bs [32,58,32],bs (Lib.itoa f.width),bs W,bs [59]] (by omega) (by rw[fl];exact hl) (by simp);rw[fl]at hL;have dd:dfl f=[an f.name,az f.width,az f.size,az f.mode,az f.init]:=rfl;unfold b9 at hS hW;have s1:bg .add (V.d (an ⟨#[91]⟩)) (V.d (an (bs (Lib.itoa f.size))))=some (V.d (an (bs (91::Lib.itoa f.size)))):=bJ [91] _ (by simp;omega);have s2:bg .add (V.d (an (bs (91::Lib.itoa f.size)))) (V.d (an ⟨#[93]⟩))=some (V.d (an (bs (91::(Lib.itoa f.size++[93]))))):=bJ (91::Lib.itoa f.size) [93] (by simp;omega);have s3:bg .add (V.d (an ⟨#[32,61,32]⟩)) (V.d (an (bs (Lib.itoa f.init))))=some (V.d (an (bs (32::61::32::Lib.itoa f.init)))):=bJ [32,61,32] _ (by simp;omega);refine ay Tryz.func31 k31 rfl fun hb hw=>?_;unfold c31
 have fin:∀ρ τ,τ=σ.set i (pgc i (cP t (lnT k (0,ez f))) k)++[[.d (an f.name),.d (az f.width),.d (az f.size),.d (az f.mode),.d (az f.init)]]→Go.Proofs.YtcbahpllcfbkmaaGreatDoor.fin σ.length FN (fun o σ'=>o=.ret (.tup [])∧σ'=σ.set i (pgc i (cP t (lnT k (0,ez f))) k)) .normal ρ τ:=fun ρ τ e=>by
  subst e;exact dx (v:=.tup []) (k:=σ.length) (Nat.le_refl _) (List.take_left' (by simp)) (d5 hb (bQ hi)) rfl rfl ⟨rfl,rfl⟩
 by_cases z0:0<f.size
 ·rw[if_pos z0]at hS;by_cases m0:f.mode=0
  ·rw[if_pos m0]at hW;have hW:W=32::61::32::Lib.itoa f.init:=hW;simp -dsimp -implicitDefEqProofs only[aw,ah,V.copy,V.lend,V.lend1,V.cells,V.boxable,over,ak,ae,ac,ai,V.plain,Nat.reduceLeDiff,cond_true,cond_false,implies_true,eq_self,ne_eq,reduceIte,reduceCtorEq,Nat.reduceBEq,Nat.reduceLT,Nat.reduceEqDiff,Nat.reduceAdd,Nat.reduceSub,Nat.reduceMul,dd,List.map_cons,List.map_nil,decide_eq_true z0];refine aq (f1 _) ?_;simp -dsimp -implicitDefEqProofs only[aw,ah,V.copy,V.lend,V.lend1,V.cells,V.boxable,over,ak,ae,ac,ai,V.plain,Nat.reduceLeDiff,cond_true,cond_false,implies_true,eq_self,ne_eq,reduceIte,reduceCtorEq,Nat.reduceBEq,Nat.reduceLT,Nat.reduceEqDiff,Nat.reduceAdd,Nat.reduceSub,Nat.reduceMul,s1,s2,decide_eq_true m0];refine aq (f3 _) ?_
   simp -dsimp -implicitDefEqProofs only[aw,ah,V.copy,V.lend,V.lend1,V.cells,V.boxable,over,ak,ae,ac,ai,V.plain,Nat.reduceLeDiff,cond_true,cond_false,implies_true,eq_self,ne_eq,reduceIte,reduceCtorEq,Nat.reduceBEq,Nat.reduceLT,Nat.reduceEqDiff,Nat.reduceAdd,Nat.reduceSub,Nat.reduceMul,s3];refine aK (gR f.mode _) ?_;simp -dsimp -implicitDefEqProofs only[aw,ah,V.copy,V.lend,V.lend1,V.cells,V.boxable,over,ak,ae,ac,ai,V.plain,Nat.reduceLeDiff,cond_true,cond_false,implies_true,eq_self,ne_eq,reduceIte,reduceCtorEq,Nat.reduceBEq,Nat.reduceLT,Nat.reduceEqDiff,Nat.reduceAdd,Nat.reduceSub,Nat.reduceMul];refine aK (f2 _) ?_
   simp -dsimp -implicitDefEqProofs only[aw,ah,V.copy,V.lend,V.lend1,V.cells,V.boxable,over,ak,ae,ac,ai,V.plain,Nat.reduceLeDiff,cond_true,cond_false,implies_true,eq_self,ne_eq,reduceIte,reduceCtorEq,Nat.reduceBEq,Nat.reduceLT,Nat.reduceEqDiff,Nat.reduceAdd,Nat.reduceSub,Nat.reduceMul];rw[←hS,←hW];refine dR (hL _ (by rw[List.getElem?_append_left hi];exact hp.at_)) ?_ ?_
   ·simp -dsimp -implicitDefEqProofs only[aw,ah,V.copy,V.lend,V.lend1,V.cells,V.boxable,over,ak,ae,ac,ai,V.plain,Nat.reduceLeDiff,cond_true,cond_false,implies_true,eq_self,ne_eq,reduceIte,reduceCtorEq,Nat.reduceBEq,Nat.reduceLT,Nat.reduceEqDiff,Nat.reduceAdd,Nat.reduceSub,Nat.reduceMul]
   rw[List.set_append_left _ _ hi];simp -dsimp -implicitDefEqProofs only[aw,ah,V.copy,V.lend,V.lend1,V.cells,V.boxable,over,ak,ae,ac,ai,V.plain,Nat.reduceLeDiff,cond_true,cond_false,implies_true,eq_self,ne_eq,reduceIte,reduceCtorEq,Nat.reduceBEq,Nat.reduceLT,Nat.reduceEqDiff,Nat.reduceAdd,Nat.reduceSub,Nat.reduceMul];exact fin _ _ rfl
  ·rw[if_neg m0]at hW;subst hW;simp -dsimp -implicitDefEqProofs only[aw,ah,V.copy,V.lend,V.lend1,V.cells,V.boxable,over,ak,ae,ac,ai,V.plain,Nat.reduceLeDiff,cond_true,cond_false,implies_true,eq_self,ne_eq,reduceIte,reduceCtorEq,Nat.reduceBEq,Nat.reduceLT,Nat.reduceEqDiff,Nat.reduceAdd,Nat.reduceSub,Nat.reduceMul,dd,List.map_cons,List.map_nil,decide_eq_true z0];refine aq (f1 _) ?_;simp -dsimp -implicitDefEqProofs only[aw,ah,V.copy,V.lend,V.lend1,V.cells,V.boxable,over,ak,ae,ac,ai,V.plain,Nat.reduceLeDiff,cond_true,cond_false,implies_true,eq_self,ne_eq,reduceIte,reduceCtorEq,Nat.reduceBEq,Nat.reduceLT,Nat.reduceEqDiff,Nat.reduceAdd,Nat.reduceSub,Nat.reduceMul,s1,s2,decide_eq_false m0];refine aK (gR f.mode _) ?_
   simp -dsimp -implicitDefEqProofs only[aw,ah,V.copy,V.lend,V.lend1,V.cells,V.boxable,over,ak,ae,ac,ai,V.plain,Nat.reduceLeDiff,cond_true,cond_false,implies_true,eq_self,ne_eq,reduceIte,reduceCtorEq,Nat.reduceBEq,Nat.reduceLT,Nat.reduceEqDiff,Nat.reduceAdd,Nat.reduceSub,Nat.reduceMul];refine aK (f2 _) ?_;simp -dsimp -implicitDefEqProofs only[aw,ah,V.copy,V.lend,V.lend1,V.cells,V.boxable,over,ak,ae,ac,ai,V.plain,Nat.reduceLeDiff,cond_true,cond_false,implies_true,eq_self,ne_eq,reduceIte,reduceCtorEq,Nat.reduceBEq,Nat.reduceLT,Nat.reduceEqDiff,Nat.reduceAdd,Nat.reduceSub,Nat.reduceMul];rw[←hS];refine dR (hL _ (by rw[List.getElem?_append_left hi];exact hp.at_)) ?_ ?_
   ·simp -dsimp -implicitDefEqProofs only[aw,ah,V.copy,V.lend,V.lend1,V.cells,V.boxable,over,ak,ae,ac,ai,V.plain,Nat.reduceLeDiff,cond_true,cond_false,implies_true,eq_self,ne_eq,reduceIte,reduceCtorEq,Nat.reduceBEq,Nat.reduceLT,Nat.reduceEqDiff,Nat.reduceAdd,Nat.reduceSub,Nat.reduceMul]
   rw[List.set_append_left _ _ hi];simp -dsimp -implicitDefEqProofs only[aw,ah,V.copy,V.lend,V.lend1,V.cells,V.boxable,over,ak,ae,ac,ai,V.plain,Nat.reduceLeDiff,cond_true,cond_false,implies_true,eq_self,ne_eq,reduceIte,reduceCtorEq,Nat.reduceBEq,Nat.reduceLT,Nat.reduceEqDiff,Nat.reduceAdd,Nat.reduceSub,Nat.reduceMul];exact fin _ _ rfl
 ·rw[if_neg z0]at hS;subst hS;by_cases m0:f.mode=0
  ·rw[if_pos m0]at hW;have hW:W=32::61::32::Lib.itoa f.init:=hW;simp -dsimp -implicitDefEqProofs only[aw,ah,V.copy,V.lend,V.lend1,V.cells,V.boxable,over,ak,ae,ac,ai,V.plain,Nat.reduceLeDiff,cond_true,cond_false,implies_true,eq_self,ne_eq,reduceIte,reduceCtorEq,Nat.reduceBEq,Nat.reduceLT,Nat.reduceEqDiff,Nat.reduceAdd,Nat.reduceSub,Nat.reduceMul,dd,List.map_cons,List.map_nil,decide_eq_false z0,decide_eq_true m0];refine aq (f3 _) ?_;simp -dsimp -implicitDefEqProofs only[aw,ah,V.copy,V.lend,V.lend1,V.cells,V.boxable,over,ak,ae,ac,ai,V.plain,Nat.reduceLeDiff,cond_true,cond_false,implies_true,eq_self,ne_eq,reduceIte,reduceCtorEq,Nat.reduceBEq,Nat.reduceLT,Nat.reduceEqDiff,Nat.reduceAdd,Nat.reduceSub,Nat.reduceMul,s3];refine aK (gR f.mode _) ?_
   simp -dsimp -implicitDefEqProofs only[aw,ah,V.copy,V.lend,V.lend1,V.cells,V.boxable,over,ak,ae,ac,ai,V.plain,Nat.reduceLeDiff,cond_true,cond_false,implies_true,eq_self,ne_eq,reduceIte,reduceCtorEq,Nat.reduceBEq,Nat.reduceLT,Nat.reduceEqDiff,Nat.reduceAdd,Nat.reduceSub,Nat.reduceMul];refine aK (f2 _) ?_;simp -dsimp -implicitDefEqProofs only[aw,ah,V.copy,V.lend,V.lend1,V.cells,V.boxable,over,ak,ae,ac,ai,V.plain,Nat.reduceLeDiff,cond_true,cond_false,implies_true,eq_self,ne_eq,reduceIte,reduceCtorEq,Nat.reduceBEq,Nat.reduceLT,Nat.reduceEqDiff,Nat.reduceAdd,Nat.reduceSub,Nat.reduceMul];rw[←hW];refine dR (hL _ (by rw[List.getElem?_append_left hi];exact hp.at_)) ?_ ?_
   ·simp -dsimp -implicitDefEqProofs only[aw,ah,V.copy,V.lend,V.lend1,V.cells,V.boxable,over,ak,ae,ac,ai,V.plain,Nat.reduceLeDiff,cond_true,cond_false,implies_true,eq_self,ne_eq,reduceIte,reduceCtorEq,Nat.reduceBEq,Nat.reduceLT,Nat.reduceEqDiff,Nat.reduceAdd,Nat.reduceSub,Nat.reduceMul]
   rw[List.set_append_left _ _ hi];simp -dsimp -implicitDefEqProofs only[aw,ah,V.copy,V.lend,V.lend1,V.cells,V.boxable,over,ak,ae,ac,ai,V.plain,Nat.reduceLeDiff,cond_true,cond_false,implies_true,eq_self,ne_eq,reduceIte,reduceCtorEq,Nat.reduceBEq,Nat.reduceLT,Nat.reduceEqDiff,Nat.reduceAdd,Nat.reduceSub,Nat.reduceMul];exact fin _ _ rfl
  ·rw[if_neg m0]at hW;subst hW;simp -dsimp -implicitDefEqProofs only[aw,ah,V.copy,V.lend,V.lend1,V.cells,V.boxable,over,ak,ae,ac,ai,V.plain,Nat.reduceLeDiff,cond_true,cond_false,implies_true,eq_self,ne_eq,reduceIte,reduceCtorEq,Nat.reduceBEq,Nat.reduceLT,Nat.reduceEqDiff,Nat.reduceAdd,Nat.reduceSub,Nat.reduceMul,dd,List.map_cons,List.map_nil,decide_eq_false z0,decide_eq_false m0];refine aK (gR f.mode _) ?_;simp -dsimp -implicitDefEqProofs only[aw,ah,V.copy,V.lend,V.lend1,V.cells,V.boxable,over,ak,ae,ac,ai,V.plain,Nat.reduceLeDiff,cond_true,cond_false,implies_true,eq_self,ne_eq,reduceIte,reduceCtorEq,Nat.reduceBEq,Nat.reduceLT,Nat.reduceEqDiff,Nat.reduceAdd,Nat.reduceSub,Nat.reduceMul];refine aK (f2 _) ?_
   simp -dsimp -implicitDefEqProofs only[aw,ah,V.copy,V.lend,V.lend1,V.cells,V.boxable,over,ak,ae,ac,ai,V.plain,Nat.reduceLeDiff,cond_true,cond_false,implies_true,eq_self,ne_eq,reduceIte,reduceCtorEq,Nat.reduceBEq,Nat.reduceLT,Nat.reduceEqDiff,Nat.reduceAdd,Nat.reduceSub,Nat.reduceMul];refine dR (hL _ (by rw[List.getElem?_append_left hi];exact hp.at_)) ?_ ?_
   ·simp -dsimp -implicitDefEqProofs only[aw,ah,V.copy,V.lend,V.lend1,V.cells,V.boxable,over,ak,ae,ac,ai,V.plain,Nat.reduceLeDiff,cond_true,cond_false,implies_true,eq_self,ne_eq,reduceIte,reduceCtorEq,Nat.reduceBEq,Nat.reduceLT,Nat.reduceEqDiff,Nat.reduceAdd,Nat.reduceSub,Nat.reduceMul]
   rw[List.set_append_left _ _ hi];simp -dsimp -implicitDefEqProofs only[aw,ah,V.copy,V.lend,V.lend1,V.cells,V.boxable,over,ak,ae,ac,ai,V.plain,Nat.reduceLeDiff,cond_true,cond_false,implies_true,eq_self,ne_eq,reduceIte,reduceCtorEq,Nat.reduceBEq,Nat.reduceLT,Nat.reduceEqDiff,Nat.reduceAdd,Nat.reduceSub,Nat.reduceMul];exact fin _ _ rfl
theorem BE(b c i:Nat)(t:Option Bs)(k:Nat)(x:Bk)(σ:List (List V))(hbig:bN x.2≤1100000)(hv:rvl x.2 0=0)(hb:σ[b]? = some [.ptr i 0])(hc:σ[c]? = some [.d (an x.1),.d (fr x.2)])(hp:σ[i]? = some (pgc i t k))(hk:k≤100)(hl:(t.getD []).length+(aX k (lns x.2)).length≤140737488355328):
 Fun G 49 [.ptr b 0,.ptr c 0] σ (fun o σ'=>o=.ret (.tup [])∧σ'=σ.set i (pgc i (cP t (aX k (lns x.2))) k)):=by
 have hi:i<σ.length:=(List.getElem?_eq_some_iff.1 hp).1;have h:=xp x.2 hbig 0 hv i t k σ hp (by omega) hl;refine ay Tryz.func49 k49 rfl fun hb' hw=>?_;unfold c49;simp -dsimp -implicitDefEqProofs only[aw,ah,V.copy,V.lend,V.lend1,V.cells,V.boxable,over,ak,ae,ac,ai,V.plain,Nat.reduceLeDiff,cond_true,cond_false,implies_true,eq_self,ne_eq,reduceIte,reduceCtorEq,Nat.reduceBEq,Nat.reduceLT,Nat.reduceEqDiff,Nat.reduceAdd,Nat.reduceSub,Nat.reduceMul,hb,hc];refine bV h ?_;simp -dsimp -implicitDefEqProofs only[aw,ah,V.copy,V.lend,V.lend1,V.cells,V.boxable,over,ak,ae,ac,ai,V.plain,Nat.reduceLeDiff,cond_true,cond_false,implies_true,eq_self,ne_eq,reduceIte,reduceCtorEq,Nat.reduceBEq,Nat.reduceLT,Nat.reduceEqDiff,Nat.reduceAdd,Nat.reduceSub,Nat.reduceMul]
 exact dx (v:=.tup []) (k:=σ.length) (Nat.le_refl _) (List.take_of_length_le (by simp)) (d5 hb' (bQ hi)) rfl rfl ⟨rfl,rfl⟩
set_option maxHeartbeats 4000000 in
theorem sr(i:Nat)(t:Option Bs)(k:Nat)(x:Bk)(σ:List (List V))(hbig:bN x.2≤1100000)(hp:PgOk σ i t k)(hd:k≤99)(hv:rvl x.2 0=0)(hl:(t.getD []).length+(aX k (di x)).length≤140737488355328):
 Fun G 32 [.ptr i 0,.agg ((dbk x).map V.d)] σ (fun o σ'=>o=.ret (.tup [])∧σ'=σ.set i (pgc i (cP t (aX k (di x))) k)):=by
 have hlns:di x=(0,[99,111,110,115,116,114,97,105,110,116,32]++(aG x.1++[32,123]))::(upL (lns x.2)++[(0,[125])]):=rfl;rw[hlns,bc,bK,ga,bc,bE,List.append_nil]at hl ⊢;simp only[List.length_append]at hl;have hi:i<σ.length:=(List.getElem?_eq_some_iff.1 hp.at_).1;have k1:=hp.k1;have fl:[bs [99,111,110,115,116,114,97,105,110,116,32],x.1,bs [32,123]].flatMap aG=[99,111,110,115,116,114,97,105,110,116,32]++(aG x.1++[32,123]):=by simp[aG,bH]
 generalize hH:(0,[99,111,110,115,116,114,97,105,110,116,32]++(aG x.1++[32,123]))=H at hl ⊢;obtain⟨u,hu,hul⟩:=lu t k H;have hL1:=dg i t k [bs [99,111,110,115,116,114,97,105,110,116,32],x.1,bs [32,123]] (by omega) (by rw[fl,hH];omega) (by simp);rw[fl,hH,hu]at hL1;have hL3:=dg i (some (u++aX (k+1) (lns x.2))) k [bs [125]] (by omega) (by rw[f125,Option.getD_some,List.length_append];omega) (by simp);have dd:dbk x=[an x.1,fr x.2]:=rfl;refine ay Tryz.func32 k32 rfl fun hb hw=>?_;unfold c32;simp -dsimp -implicitDefEqProofs only[aw,ah,V.copy,V.lend,V.lend1,V.cells,V.boxable,over,ak,ae,ac,ai,V.plain,Nat.reduceLeDiff,cond_true,cond_false,implies_true,eq_self,ne_eq,reduceIte,reduceCtorEq,Nat.reduceBEq,Nat.reduceLT,Nat.reduceEqDiff,Nat.reduceAdd,Nat.reduceSub,Nat.reduceMul,dd,List.map_cons,List.map_nil]
 refine bV (hL1 _ (by rw[List.getElem?_append_left hi];exact hp.at_)) ?_;rw[List.set_append_left _ _ hi];simp -dsimp -implicitDefEqProofs only[aw,ah,V.copy,V.lend,V.lend1,V.cells,V.boxable,over,ak,ae,ac,ai,V.plain,Nat.reduceLeDiff,cond_true,cond_false,implies_true,eq_self,ne_eq,reduceIte,reduceCtorEq,Nat.reduceBEq,Nat.reduceLT,Nat.reduceEqDiff,Nat.reduceAdd,Nat.reduceSub,Nat.reduceMul,bp,aT];refine bV (eH i u (u++aX (k+1) (lns x.2)) k (by omega) _ _ _ (bt σ _ i _ hi) ?_) ?_
 ·rw[aN _ _ _ _ _ hi,aN _ _ _ _ _ hi];have:=BE σ.length (σ.length+1) i (some u) (k+1) x (σ.set i (pgc i (some u) ((k+1:Nat):Int))++[[.ptr i 0],[.d (an x.1),.d (fr x.2)]]) hbig hv (aT ..) (bp ..) (bt σ _ i _ hi) (by omega) (by rw[Option.getD_some];omega);rw[aN _ _ _ _ _ hi]at this;exact this
 rw[aN _ _ _ _ _ hi];simp -dsimp -implicitDefEqProofs only[aw,ah,V.copy,V.lend,V.lend1,V.cells,V.boxable,over,ak,ae,ac,ai,V.plain,Nat.reduceLeDiff,cond_true,cond_false,implies_true,eq_self,ne_eq,reduceIte,reduceCtorEq,Nat.reduceBEq,Nat.reduceLT,Nat.reduceEqDiff,Nat.reduceAdd,Nat.reduceSub,Nat.reduceMul,bp,aT];refine bV (hL3 _ (bt σ _ i _ hi)) ?_;rw[aN _ _ _ _ _ hi];simp -dsimp -implicitDefEqProofs only[aw,ah,V.copy,V.lend,V.lend1,V.cells,V.boxable,over,ak,ae,ac,ai,V.plain,Nat.reduceLeDiff,cond_true,cond_false,implies_true,eq_self,ne_eq,reduceIte,reduceCtorEq,Nat.reduceBEq,Nat.reduceLT,Nat.reduceEqDiff,Nat.reduceAdd,Nat.reduceSub,Nat.reduceMul];refine dx (v:=.tup []) (k:=σ.length) (Nat.le_refl _) (List.take_left' (by simp)) (d5 hb (bQ hi)) rfl rfl ⟨rfl,?_⟩
 rw[←eY,←eY,hu,f125];rfl
end Go.Proofs.YtcbahpllcfbkmaaGreatDoor
