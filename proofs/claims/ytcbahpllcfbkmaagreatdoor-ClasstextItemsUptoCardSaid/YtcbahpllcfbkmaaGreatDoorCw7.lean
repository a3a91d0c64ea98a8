import Derived.Test.YtcbahpllcfbkmaaGreatDoorCw6
set_option linter.unusedVariables false
set_option linter.unusedSimpArgs false
set_option linter.unusedSectionVars false
namespace Go.Proofs.YtcbahpllcfbkmaaGreatDoor
open Go.RowKit
structure FlV(f:Fl):Prop where
 nm:nameB f.name=true
 w0:1≤f.width
 w1:f.width≤8
 s0:0≤f.size
 s1:f.size≤8
 md:f.mode=0∨f.mode=1∨f.mode=2
 i0:0≤f.init
 i1:f.init≤255
 i2:f.mode≠0→f.init=0
theorem flv_of{f:Fl}(h:fldE f=0):FlV f:=by
 unfold fldE at h;by_cases h1:nameB f.name=false
 ·rw[if_pos h1]at h;omega
 rw[if_neg h1]at h;by_cases h2:f.width<1∨8<f.width∨f.size<0∨8<f.size
 ·rw[if_pos h2]at h;omega
 rw[if_neg h2]at h;by_cases h3:f.mode≠0∧f.mode≠1∧f.mode≠2
 ·rw[if_pos h3]at h;omega
 rw[if_neg h3]at h;by_cases h4:f.size≠0∧f.mode=2
 ·rw[if_pos h4]at h;omega
 rw[if_neg h4]at h;by_cases h5:f.init<0∨(if f.mode=0 then 2^f.width.toNat-1 else 0)<f.init
 ·rw[if_pos h5]at h;omega
 have hw:1≤f.width∧f.width≤8:=by omega
 obtain⟨-,q2,q3⟩:=shl_one hw.1 hw.2;have hm:f.mode=0∨f.mode=1∨f.mode=2:=by omega
 refine⟨by cases hn:nameB f.name<;>simp_all,hw.1,hw.2,by omega,by omega,hm,by omega,?_,?_⟩
 ·by_cases m0:f.mode=0
  ·rw[if_pos m0]at h5;omega
  ·rw[if_neg m0]at h5;omega
 ·intro m0;rw[if_neg m0]at h5;omega
theorem mode_len(m:Int):(modeT m).length≤6:=by
 unfold modeT;split
 ·simp
 ·split<;>simp
theorem fldT_len{f:Fl}(h:FlV f):(fldT f).length≤60:=by
 have h1:=mode_len f.mode;have h2:=name_len h.nm;have h3:=num_len (n:=f.size) h.s0 (by have:=h.s1;omega);have h4:=num_len (n:=f.width) (by have:=h.w0;omega) (by have:=h.w1;omega);have h5:=num_len (n:=f.init) h.i0 (by have:=h.i1;omega);unfold fldT strT;split<;>split<;>simp only[List.length_append,List.length_cons,List.length_nil]<;>omega
set_option maxHeartbeats 4000000 in
theorem field_fun'(i:Nat)(t:Option Bs)(k:Nat)(f:Fl)(σ:List (List V))(hp:PgOk σ i t k)(hv:FlV f)(hl:(t.getD []).length+(lnT k (0,fldT f)).length≤140737488355328):
 Fun G 31 [.ptr i 0,.agg ((dfl f).map V.d)] σ (fun o σ'=>o=.ret (.tup [])∧σ'=σ.set i (pgc i (addT t (lnT k (0,fldT f))) k)):=by
 have hi:i<σ.length:=(List.getElem?_eq_some_iff.1 hp.at_).1;have k1:=hp.k1;have n1 : -9223372036854775808≤f.size∧f.size≤9223372036854775807:=by have:=hv.s0;have:=hv.s1;omega
 have n2 : -9223372036854775808≤f.width∧f.width≤9223372036854775807:=by have:=hv.w0;have:=hv.w1;omega
 have n3 : -9223372036854775808≤f.init∧f.init≤9223372036854775807:=by have:=hv.i0;have:=hv.i1;omega
 have f1:=fun σ=>numFormatZ_fun f.size n1.1 n1.2 σ;have f2:=fun σ=>numFormatZ_fun f.width n2.1 n2.2 σ;have f3:=fun σ=>numFormatZ_fun f.init n3.1 n3.2 σ;have l1:=itoa_l20 n1.1 n1.2;have l3:=itoa_l20 n3.1 n3.2;obtain⟨S,hS⟩:∃S,S=(if 0<f.size then 91::(numT f.size++[93])else[]):=⟨_,rfl⟩
 obtain⟨W,hW⟩:∃W,W=(if f.mode=0 then[32,61,32]++numT f.init else[]):=⟨_,rfl⟩
 have hF:fldT f=modeT f.mode++(strT f.name++(S++([32,58,32]++(numT f.width++(W++[59]))))):=by rw[hS,hW];rfl
 have fl:[bs (modeT f.mode),f.name,bs S,bs [32,58,32],bs (Lib.itoa f.width),bs W,bs [59]].flatMap strT=fldT f:=by rw[hF];simp[strT,bs_list,numT]
 have hL:=line_at i t k [bs (modeT f.mode),f.name,bs S,bs [32,58,32],bs (Lib.itoa f.width),bs W,bs [59]] (by omega) (by rw[fl];exact hl) (by simp);rw[fl]at hL;have dd:dfl f=[dstr f.name,dint f.width,dint f.size,dint f.mode,dint f.init]:=rfl;unfold numT at hS hW;have s1:binV .add (V.d (dstr ⟨#[91]⟩)) (V.d (dstr (bs (Lib.itoa f.size))))=some (V.d (dstr (bs (91::Lib.itoa f.size)))):=add_bs [91] _ (by simp;omega);have s2:binV .add (V.d (dstr (bs (91::Lib.itoa f.size)))) (V.d (dstr ⟨#[93]⟩))=some (V.d (dstr (bs (91::(Lib.itoa f.size++[93]))))):=add_bs (91::Lib.itoa f.size) [93] (by simp;omega);have s3:binV .add (V.d (dstr ⟨#[32,61,32]⟩)) (V.d (dstr (bs (Lib.itoa f.init))))=some (V.d (dstr (bs (32::61::32::Lib.itoa f.init)))):=add_bs [32,61,32] _ (by simp;omega);refine fun_code Tryz.func31 k31 rfl fun hb hw=>?_;unfold c31
 have fin:∀ρ τ,τ=σ.set i (pgc i (addT t (lnT k (0,fldT f))) k)++[[.d (dstr f.name),.d (dint f.width),.d (dint f.size),.d (dint f.mode),.d (dint f.init)]]→Go.Proofs.YtcbahpllcfbkmaaGreatDoor.fin σ.length rs31 (fun o σ'=>o=.ret (.tup [])∧σ'=σ.set i (pgc i (addT t (lnT k (0,fldT f))) k)) .normal ρ τ:=fun ρ τ e=>by
  subst e;exact fin_en (v:=.tup []) (k:=σ.length) (Nat.le_refl _) (List.take_left' (by simp)) (bbset hb (pg_under hi)) rfl rfl ⟨rfl,rfl⟩
 by_cases z0:0<f.size
 ·rw[if_pos z0]at hS;by_cases m0:f.mode=0
  ·rw[if_pos m0]at hW;have hW:W=32::61::32::Lib.itoa f.init:=hW;simp -dsimp -implicitDefEqProofs only[aw,slots0,V.copy,V.lend,V.cells,V.boxable,Nat.reduceLeDiff,eq_self,reduceIte,reduceCtorEq,Nat.reduceBEq,Nat.reduceLT,Nat.reduceEqDiff,Nat.reduceAdd,dd,decide_eq_true z0];refine fun_ret (f1 _) ?_;simp -dsimp -implicitDefEqProofs only[aw,V.copy,V.lend,Nat.reduceLeDiff,eq_self,reduceIte,reduceCtorEq,Nat.reduceBEq,Nat.reduceLT,Nat.reduceEqDiff,Nat.reduceAdd,s1,s2,decide_eq_true m0];refine fun_ret (f3 _) ?_;simp -dsimp -implicitDefEqProofs only[aw,V.copy,V.lend,Nat.reduceLeDiff,eq_self,reduceIte,reduceCtorEq,Nat.reduceBEq,Nat.reduceLT,Nat.reduceEqDiff,Nat.reduceAdd,Nat.reduceSub,s3];refine calm_ret (ctmode_fun f.mode _) ?_;simp -dsimp -implicitDefEqProofs only[aw,V.copy,V.lend,Nat.reduceLeDiff,eq_self,reduceIte,reduceCtorEq,Nat.reduceLT,Nat.reduceEqDiff,Nat.reduceAdd,Nat.reduceSub]
   refine calm_ret (f2 _) ?_;simp -dsimp -implicitDefEqProofs only[aw,V.copy,V.lend,V.cells,rowsOf,plains,V.plain,eq_self,reduceIte,reduceCtorEq,Nat.reduceBEq,Nat.reduceLT,Nat.reduceEqDiff,Nat.reduceSub];rw[←hS,←hW];refine actG_ret (hL _ (by rw[List.getElem?_append_left hi];exact hp.at_)) ?_ ?_
   ·simp -dsimp -implicitDefEqProofs only[aw]
   rw[List.set_append_left _ _ hi];simp -dsimp -implicitDefEqProofs only[aw,reduceIte,reduceCtorEq,Nat.reduceLT,Nat.reduceEqDiff];exact fin _ _ rfl
  ·rw[if_neg m0]at hW;subst hW;simp -dsimp -implicitDefEqProofs only[aw,slots0,V.copy,V.lend,V.cells,V.boxable,Nat.reduceLeDiff,eq_self,reduceIte,reduceCtorEq,Nat.reduceBEq,Nat.reduceLT,Nat.reduceEqDiff,Nat.reduceAdd,dd,decide_eq_true z0];refine fun_ret (f1 _) ?_;simp -dsimp -implicitDefEqProofs only[aw,V.copy,V.lend,Nat.reduceLeDiff,eq_self,reduceIte,reduceCtorEq,Nat.reduceBEq,Nat.reduceLT,Nat.reduceEqDiff,Nat.reduceAdd,Nat.reduceSub,s1,s2,decide_eq_false m0];refine calm_ret (ctmode_fun f.mode _) ?_;simp -dsimp -implicitDefEqProofs only[aw,V.copy,V.lend,Nat.reduceLeDiff,eq_self,reduceIte,reduceCtorEq,Nat.reduceLT,Nat.reduceEqDiff,Nat.reduceAdd,Nat.reduceSub];refine calm_ret (f2 _) ?_;simp -dsimp -implicitDefEqProofs only[aw,V.copy,V.lend,V.cells,rowsOf,plains,V.plain,eq_self,reduceIte,reduceCtorEq,Nat.reduceBEq,Nat.reduceLT,Nat.reduceEqDiff,Nat.reduceSub];rw[←hS]
   refine actG_ret (hL _ (by rw[List.getElem?_append_left hi];exact hp.at_)) ?_ ?_
   ·simp -dsimp -implicitDefEqProofs only[aw]
   rw[List.set_append_left _ _ hi];simp -dsimp -implicitDefEqProofs only[aw,reduceIte,reduceCtorEq,Nat.reduceLT,Nat.reduceEqDiff];exact fin _ _ rfl
 ·rw[if_neg z0]at hS;subst hS;by_cases m0:f.mode=0
  ·rw[if_pos m0]at hW;have hW:W=32::61::32::Lib.itoa f.init:=hW;simp -dsimp -implicitDefEqProofs only[aw,slots0,V.copy,V.lend,V.cells,V.boxable,Nat.reduceLeDiff,eq_self,reduceIte,reduceCtorEq,Nat.reduceBEq,Nat.reduceLT,Nat.reduceEqDiff,Nat.reduceAdd,dd,decide_eq_false z0,decide_eq_true m0];refine fun_ret (f3 _) ?_;simp -dsimp -implicitDefEqProofs only[aw,V.copy,V.lend,Nat.reduceLeDiff,eq_self,reduceIte,reduceCtorEq,Nat.reduceBEq,Nat.reduceLT,Nat.reduceEqDiff,Nat.reduceAdd,Nat.reduceSub,s3];refine calm_ret (ctmode_fun f.mode _) ?_;simp -dsimp -implicitDefEqProofs only[aw,V.copy,V.lend,Nat.reduceLeDiff,eq_self,reduceIte,reduceCtorEq,Nat.reduceLT,Nat.reduceEqDiff,Nat.reduceAdd,Nat.reduceSub];refine calm_ret (f2 _) ?_;simp -dsimp -implicitDefEqProofs only[aw,V.copy,V.lend,V.cells,rowsOf,plains,V.plain,eq_self,reduceIte,reduceCtorEq,Nat.reduceBEq,Nat.reduceLT,Nat.reduceEqDiff,Nat.reduceSub]
   rw[←hW];refine actG_ret (hL _ (by rw[List.getElem?_append_left hi];exact hp.at_)) ?_ ?_
   ·simp -dsimp -implicitDefEqProofs only[aw]
   rw[List.set_append_left _ _ hi];simp -dsimp -implicitDefEqProofs only[aw,reduceIte,reduceCtorEq,Nat.reduceLT,Nat.reduceEqDiff];exact fin _ _ rfl
  ·rw[if_neg m0]at hW;subst hW;simp -dsimp -implicitDefEqProofs only[aw,slots0,V.copy,V.lend,V.cells,V.boxable,Nat.reduceLeDiff,eq_self,reduceIte,reduceCtorEq,Nat.reduceBEq,Nat.reduceLT,Nat.reduceEqDiff,Nat.reduceAdd,Nat.reduceSub,dd,decide_eq_false z0,decide_eq_false m0];refine calm_ret (ctmode_fun f.mode _) ?_;simp -dsimp -implicitDefEqProofs only[aw,V.copy,V.lend,Nat.reduceLeDiff,eq_self,reduceIte,reduceCtorEq,Nat.reduceLT,Nat.reduceEqDiff,Nat.reduceAdd,Nat.reduceSub];refine calm_ret (f2 _) ?_;simp -dsimp -implicitDefEqProofs only[aw,V.copy,V.lend,V.cells,rowsOf,plains,V.plain,eq_self,reduceIte,reduceCtorEq,Nat.reduceBEq,Nat.reduceLT,Nat.reduceEqDiff,Nat.reduceSub];refine actG_ret (hL _ (by rw[List.getElem?_append_left hi];exact hp.at_)) ?_ ?_
   ·simp -dsimp -implicitDefEqProofs only[aw]
   rw[List.set_append_left _ _ hi];simp -dsimp -implicitDefEqProofs only[aw,reduceIte,reduceCtorEq,Nat.reduceLT,Nat.reduceEqDiff];exact fin _ _ rfl
theorem bl1_fun(b c i:Nat)(t:Option Bs)(k:Nat)(x:Bk)(σ:List (List V))(hbig:ibigs x.2≤1100000)(hv:rvl x.2 0=0)(hb:σ[b]? = some [.ptr i 0])(hc:σ[c]? = some [.d (dstr x.1),.d (ditl x.2)])(hp:σ[i]? = some (pgc i t k))(hk:k≤100)(hl:(t.getD []).length+(lnsT k (lns x.2)).length≤140737488355328):
 Fun G 49 [.ptr b 0,.ptr c 0] σ (fun o σ'=>o=.ret (.tup [])∧σ'=σ.set i (pgc i (addT t (lnsT k (lns x.2))) k)):=by
 have hi:i<σ.length:=(List.getElem?_eq_some_iff.1 hp).1;have h:=items_fun x.2 hbig 0 hv i t k σ hp (by omega) hl;refine fun_code Tryz.func49 k49 rfl fun hb' hw=>?_;unfold c49;simp -dsimp -implicitDefEqProofs only[aw,slots0,V.copy,V.lend,Nat.reduceLeDiff,eq_self,reduceIte,reduceCtorEq,Nat.reduceLT,Nat.reduceEqDiff,Nat.reduceAdd,hb,hc];refine fun_to h ?_;simp -dsimp -implicitDefEqProofs only[aw,reduceIte,reduceCtorEq,Nat.reduceLT,Nat.reduceEqDiff];exact fin_en (v:=.tup []) (k:=σ.length) (Nat.le_refl _) (List.take_of_length_le (by simp)) (bbset hb' (pg_under hi)) rfl rfl ⟨rfl,rfl⟩
set_option maxHeartbeats 4000000 in
theorem block_fun'(i:Nat)(t:Option Bs)(k:Nat)(x:Bk)(σ:List (List V))(hbig:ibigs x.2≤1100000)(hp:PgOk σ i t k)(hd:k≤99)(hv:rvl x.2 0=0)(hl:(t.getD []).length+(lnsT k (blkL x)).length≤140737488355328):
 Fun G 32 [.ptr i 0,.agg ((dbk x).map V.d)] σ (fun o σ'=>o=.ret (.tup [])∧σ'=σ.set i (pgc i (addT t (lnsT k (blkL x))) k)):=by
 have hlns:blkL x=(0,[99,111,110,115,116,114,97,105,110,116,32]++(strT x.1++[32,123]))::(upL (lns x.2)++[(0,[125])]):=rfl;rw[hlns,lnsT_cons,lnsT_app,lnsT_up,lnsT_cons,lnsT_nil,List.append_nil]at hl ⊢;simp only[List.length_append]at hl;have hi:i<σ.length:=(List.getElem?_eq_some_iff.1 hp.at_).1;have k1:=hp.k1;have fl:[bs [99,111,110,115,116,114,97,105,110,116,32],x.1,bs [32,123]].flatMap strT=[99,111,110,115,116,114,97,105,110,116,32]++(strT x.1++[32,123]):=by simp[strT,bs_list]
 generalize hH:(0,[99,111,110,115,116,114,97,105,110,116,32]++(strT x.1++[32,123]))=H at hl ⊢;obtain⟨u,hu,hul⟩:=addT_line t k H;have hL1:=line_at i t k [bs [99,111,110,115,116,114,97,105,110,116,32],x.1,bs [32,123]] (by omega) (by rw[fl,hH];omega) (by simp);rw[fl,hH,hu]at hL1;have hL3:=line_at i (some (u++lnsT (k+1) (lns x.2))) k [bs [125]] (by omega) (by rw[f125,Option.getD_some,List.length_append];omega) (by simp);have dd:dbk x=[dstr x.1,ditl x.2]:=rfl;refine fun_code Tryz.func32 k32 rfl fun hb hw=>?_;unfold c32;simp -dsimp -implicitDefEqProofs only[aw,slots0,V.copy,V.lend,V.cells,V.boxable,rowsOf,plains,V.plain,Nat.reduceLeDiff,eq_self,reduceIte,reduceCtorEq,Nat.reduceBEq,Nat.reduceLT,Nat.reduceEqDiff,Nat.reduceAdd,dd];refine fun_to (hL1 _ (by rw[List.getElem?_append_left hi];exact hp.at_)) ?_;rw[List.set_append_left _ _ hi]
 simp -dsimp -implicitDefEqProofs only[aw,V.copy,V.lend,Nat.reduceLeDiff,eq_self,reduceIte,Nat.reduceBEq,Nat.reduceLT,Nat.reduceEqDiff,get_set_new0];refine fun_to (inside_fun i u (u++lnsT (k+1) (lns x.2)) k (by omega) _ _ _ (get_set_same σ _ i _ hi) ?_) ?_
 ·rw[set_set_same _ _ _ _ _ hi,set_set_same _ _ _ _ _ hi];have:=bl1_fun σ.length (σ.length+1) i (some u) (k+1) x (σ.set i (pgc i (some u) ((k+1:Nat):Int))++[[.ptr i 0],[.d (dstr x.1),.d (ditl x.2)]]) hbig hv (get_set_new0 ..) (get_set_new ..) (get_set_same σ _ i _ hi) (by omega) (by rw[Option.getD_some];omega);rw[set_set_same _ _ _ _ _ hi]at this;exact this
 rw[set_set_same _ _ _ _ _ hi];simp -dsimp -implicitDefEqProofs only[aw,V.copy,V.lend,V.cells,rowsOf,plains,V.plain,Nat.reduceLeDiff,eq_self,reduceIte,Nat.reduceBEq,Nat.reduceLT,Nat.reduceEqDiff,get_set_new0];refine fun_to (hL3 _ (get_set_same σ _ i _ hi)) ?_;rw[set_set_same _ _ _ _ _ hi];simp -dsimp -implicitDefEqProofs only[aw,reduceIte,Nat.reduceLT,Nat.reduceEqDiff];refine fin_en (v:=.tup []) (k:=σ.length) (Nat.le_refl _) (List.take_left' (by simp)) (bbset hb (pg_under hi)) rfl rfl ⟨rfl,?_⟩;rw[←addT_app,←addT_app,hu,f125];rfl
end Go.Proofs.YtcbahpllcfbkmaaGreatDoor
