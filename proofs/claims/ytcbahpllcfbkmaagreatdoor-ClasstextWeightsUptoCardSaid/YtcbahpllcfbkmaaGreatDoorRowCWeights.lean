import Derived.Test.YtcbahpllcfbkmaaGreatDoorCy3
import Derived.Test.YtcbahpllcfbkmaaGreatDoorCy2
import Derived.Test.YtcbahpllcfbkmaaGreatDoorRow12
set_option linter.unusedVariables false
set_option linter.unusedSimpArgs false
set_option linter.unusedSectionVars false
namespace Go.Proofs.YtcbahpllcfbkmaaGreatDoor
open Go.RowKit
theorem weights_law(l:List Wt)(h:∀w,w∈l→WtFit w)(hl:l.length≤1200000)(σ:List (List V)):Fun G 3 [.d (.sl (l.map dwt))] σ (RetV (vbool true) σ):=by
 have hk:∀w,w∈l.take 40→WtFit w:=fun w hw=>h w (List.mem_of_mem_take hw);have hl40:(l.take 40).length≤40:=List.length_take_le ..;have f1:=fun σ=>ctWeights_fun (l.take 40) hk (by omega) σ;have f2:=fun σ=>rWeights_fun (l.take 40) hk (by omega) σ;have hmn:mxV false (.d (.lit (.int .i64 (l.length:Int)))) (.d (.lit (.int .i64 40)))=_:=mn_lit l.length 40;have hsub:=sub_take 4 (l.map dwt) (min l.length 40) (by rw[List.length_map];omega) (by rw[List.all_map,List.all_eq_true];intro c _;rfl)
 have ht:(l.map dwt).take (min l.length 40)=(l.take 40).map dwt:=by
  rw[←List.map_take];congr 1;by_cases h6:l.length≤40
  ·rw[Nat.min_eq_left h6,List.take_length,List.take_of_length_le h6]
  ·rw[Nat.min_eq_right (by omega)]
 rw[ht]at hsub;refine fun_code Tryz.func3 k3 rfl fun hb hw=>?_;unfold c3;simp -dsimp -implicitDefEqProofs only[aw,slots0,V.copy,V.lend,V.lend1,V.cells,V.boxable,over,bldV,boundV,rowsOf,plains,V.plain,Nat.reduceLeDiff,cond_true,cond_false,implies_true,eq_self,ne_eq,reduceIte,reduceCtorEq,Nat.reduceBEq,Nat.reduceLT,Nat.reduceEqDiff,Nat.reduceAdd,Nat.reduceSub,Nat.reduceMul,List.length_map,hmn,hsub,Option.map_none,Option.map_some];refine fun_ret (f1 _) ?_;simp -dsimp -implicitDefEqProofs only[aw,slots0,V.copy,V.lend,V.lend1,V.cells,V.boxable,over,bldV,boundV,rowsOf,plains,V.plain,Nat.reduceLeDiff,cond_true,cond_false,implies_true,eq_self,ne_eq,reduceIte,reduceCtorEq,Nat.reduceBEq,Nat.reduceLT,Nat.reduceEqDiff,Nat.reduceAdd,Nat.reduceSub,Nat.reduceMul];refine fun_ret (f2 _) ?_
 simp -dsimp -implicitDefEqProofs only[aw,slots0,V.copy,V.lend,V.lend1,V.cells,V.boxable,over,bldV,boundV,rowsOf,plains,V.plain,Nat.reduceLeDiff,cond_true,cond_false,implies_true,eq_self,ne_eq,reduceIte,reduceCtorEq,Nat.reduceBEq,Nat.reduceLT,Nat.reduceEqDiff,Nat.reduceAdd,Nat.reduceSub,Nat.reduceMul,decide_true];refine fun_ret (awake_fun _) ?_;simp -dsimp -implicitDefEqProofs only[aw,slots0,V.copy,V.lend,V.lend1,V.cells,V.boxable,over,bldV,boundV,rowsOf,plains,V.plain,Nat.reduceLeDiff,cond_true,cond_false,implies_true,eq_self,ne_eq,reduceIte,reduceCtorEq,Nat.reduceBEq,Nat.reduceLT,Nat.reduceEqDiff,Nat.reduceAdd,Nat.reduceSub,Nat.reduceMul];first|exact fin_ret hb rfl rfl List.take_length ⟨rfl,rfl⟩|exact fin_ret hb rfl rfl List.take_left ⟨rfl,rfl⟩|(trace_state;fail "fin")
end Go.Proofs.YtcbahpllcfbkmaaGreatDoor
namespace Go.Proofs.YtcbahpllcfbkmaaGreatDoor
open Go.ChangeShapes Go.WideShapes Go.ChangeAt Go.RowKit
set_option maxRecDepth 100000 in
theorem classtextWeights_contract(H:Type)(enc:TypeId×Value→H)(W:World)(base:Nat)(args:Array Value)(ds gs:List (DataW H))(before:List MemPlace)
 (hval:∀(j:Nat) t v,Tryz.f3.params[j]? = some t→args[j]? = some v→Value.okWide Tryz.prog W .any base t v)
 (hW:DataW.Whole enc Tryz.prog Tryz.f3.params.toList Rows.classtextWeightsSpec.vars false W args.toList ds gs before)(hL:laidMetH Tryz.prog row12 W)(hk:Rows.uptoSmall H (ds++gs)=true):
 Calls Tryz.prog 3 args W fun e W'=>∃v,e=.returned v∧Rows.classtextWeightsSpec.post enc Tryz.prog Tryz.f3 false true false false W args v W':=by
 have hW':=hW;obtain⟨p,q,hA0,hV0,rfl,hfz,hnd⟩:=hW;have hA:DataW.TrodAll enc Tryz.prog W 0 (fun _=>true) true Tryz.f3.params.toList args.toList ds p:=hA0;have hV:DataW.TrodVars enc Tryz.prog W (fun _=>true) [] gs q:=hV0;rw[Tryz.params3]at hA hval;obtain⟨v0,d0,rfl,rfl,h0⟩:=trodAll_one hA;obtain⟨rfl,rfl⟩:=trodVars_none hV;have lt0:=lt_of_trod h0;obtain⟨l0,hv0,hb0,hl0⟩:=wts_trod h0 (hval 0 22 v0 rfl rfl)
 have hbd:Rows.uptoBulk d0+0≤1048576:=by
  have:=of_decide_eq_true hk;simpa only[List.cons_append,List.nil_append,Rows.uptoBulkAll]using this
 have e1:Rows.classtextWeightsSpec.fn H ([d0]++[])={results:=[.lit (.bool true)],args:=[d0]}:=by simp[Rows.classtextWeightsSpec]
 refine(calls_of_fun12 (vs:=[v0]) hL (weights_law l0 hb0 (by omega) []) rfl (fun i h h'=>?_)).mono fun en W' ⟨he,hx⟩=>?_
 ·match i,h with
  | 0,_=>exact .d hv0
 subst he;have bel:=hx.below;refine⟨_,rfl,_,_,_,[],p,[],hW',?_,?_,?_,bel.frame _,fun h=>by cases h⟩
 ·rw[e1];exact trodAll_mk1 (shut_bool Tryz.underlying4 true)
 ·rw[e1];exact trodAll_mk1 (Below.trod Tryz.laidOut (by kernel_rfl) (of_decide_eq_true (by kernel_rfl)) h0 bel lt0)
 ·rw[e1];rfl
set_option maxRecDepth 100000 in
theorem classtextWeights_lifted(os:Os)(started:os.Started)(H:Type)(enc:TypeId×Value→H)(F:Stop.Interp):
 ReturnsInHanded {} Tryz.checked os 3 .any ((Rows.OpenSpec.upto Rows.classtextWeightsSpec).preRow enc Tryz.prog Tryz.f3 Rows.classtextWeightsUptoRow.domain false Rows.classtextWeightsUptoRow.laid) (((Rows.OpenSpec.upto Rows.classtextWeightsSpec).at F).post enc Tryz.prog Tryz.f3 false true false false):=by
 have hx:DataW.whole enc Tryz.prog ((laidWorld os).forCall (fun _ _=>0) ⟨#[],#[.slice none 0 0],[]⟩).memory Tryz.f3.params.toList Rows.classtextWeightsSpec.vars false #[Value.slice none 0 0].toList 8=some ([.nil],[],[]):=by kernel_rfl
 refine returnsInHanded_of_row (C:=Tryz.checked) (s:=Rows.OpenSpec.upto Rows.classtextWeightsSpec) Tryz.own started (by kernel_rfl) Tryz.func3
  (witness_row_atRef (enc:=enc) (C:=Tryz.checked) false (laidWorld os) #[.slice none 0 0] rfl (by kernel_rfl) (by kernel_rfl) (by kernel_rfl)
    (OpenSpec.preRow_of_cond 8 hx (by kernel_rfl) (fun k hk=>by cases hk;kernel_rfl) (by kernel_rfl) (laidWorld_met os _))) ?_
 intro W base args ds gs before hval hW _ hcond _ hL _ _;exact classtextWeights_contract H enc W base args ds gs before hval hW hL (hcond _ rfl)
theorem classtextWeights_upto:Rows.ClasstextWeightsUptoSaid:=
 OpenClaim.holds_of_cond 3 Tryz.f3 rfl rfl rfl rfl rfl rfl rfl ⟨rfl,rfl,rfl,rfl,rfl⟩ rfl rfl rfl rfl rfl (by kernel_rfl) Tryz.func3 (by kernel_rfl)
  (of_decide_eq_true (by kernel_rfl)) (by unfold Func.isWrapper;first|(rw[if_pos (by decide +kernel)];kernel_rfl)|(rw[if_neg (by decide +kernel)];exact⟨rfl,rfl⟩))
  (fun os started H enc _ F=>by rw[OpenClaim.pre_eq_preRow];exact classtextWeights_lifted os started H enc F)
#print axioms classtextWeights_upto
end Go.Proofs.YtcbahpllcfbkmaaGreatDoor
