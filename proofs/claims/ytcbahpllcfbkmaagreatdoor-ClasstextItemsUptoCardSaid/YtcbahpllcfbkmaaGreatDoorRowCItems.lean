import Derived.Test.YtcbahpllcfbkmaaGreatDoorCy4
import Derived.Test.YtcbahpllcfbkmaaGreatDoorCy2
import Derived.Test.YtcbahpllcfbkmaaGreatDoorIr2
import Derived.Test.YtcbahpllcfbkmaaGreatDoorIs3
set_option linter.unusedVariables false
set_option linter.unusedSimpArgs false
set_option linter.unusedSectionVars false
namespace Go.Proofs.YtcbahpllcfbkmaaGreatDoor
open Go.RowKit
theorem rlines_fun:∀l:List It,ibigs l≤1100000→RlOK l:=by
 refine its_ind2 fun l ih hbig=>rlines_step l hbig fun x hx=>?_;have h1:=ibigs_mem hx;have h2:=ibig_eq x;obtain⟨i1,i2⟩:=ih x hx;exact⟨i1 (by omega),i2 (by omega)⟩
theorem rItems_fun(l:List It)(n:Int)(hbig:ibigs l≤1100000)(σ:List (List V)):Fun G 18 [.d (ditl l),.d (dint n)] σ (RetV (.d (dstr (bs (itemsT l n)))) σ):=by
 have hlen:=itemsT_len n hbig;refine fun_code Tryz.func18 k18 rfl fun hb hw=>?_;unfold c18;simp -dsimp -implicitDefEqProofs only[aw,slots0,V.copy,V.lend,eq_self,reduceIte,reduceCtorEq,Nat.reduceBEq,Nat.reduceLT,Nat.reduceEqDiff];refine fun_ret (rvalid_item l hbig _) ?_;by_cases hv:validI l=0
 ·by_cases h0:n<0
  ·have:itemsT l n=[]:=by unfold itemsT;rw[if_neg (by omega)]
   rw[this];simp -dsimp -implicitDefEqProofs only[aw,V.copy,V.lend,cond_false,eq_self,reduceIte,reduceCtorEq,Nat.reduceBEq,Nat.reduceLT,Nat.reduceEqDiff,decide_eq_true hv,decide_eq_true h0];first|exact fin_ret hb rfl rfl List.take_length ⟨rfl,rfl⟩|exact fin_ret hb rfl rfl List.take_left ⟨rfl,rfl⟩|(trace_state;fail "fin")
  by_cases h1:32<n
  ·have:itemsT l n=[]:=by unfold itemsT;rw[if_neg (by omega)]
   rw[this];simp -dsimp -implicitDefEqProofs only[aw,V.copy,V.lend,cond_false,eq_self,reduceIte,reduceCtorEq,Nat.reduceBEq,Nat.reduceLT,Nat.reduceEqDiff,decide_eq_true hv,decide_eq_false h0,decide_eq_true h1];first|exact fin_ret hb rfl rfl List.take_length ⟨rfl,rfl⟩|exact fin_ret hb rfl rfl List.take_left ⟨rfl,rfl⟩|(trace_state;fail "fin")
  have hT:itemsT l n=lnsT n.toNat (lns l):=by unfold itemsT;rw[if_pos ⟨hv,by omega,by omega⟩]
  rw[hT]at hlen ⊢;obtain⟨m,rfl⟩:=Int.eq_ofNat_of_zero_le (show 0≤n by omega);rw[Int.toNat_natCast]at hlen ⊢;have hi:=rlines_fun l hbig 0 (valid_rvl hv) m (by omega) hlen;simp -dsimp -implicitDefEqProofs only[aw,V.copy,V.lend,cond_false,eq_self,reduceIte,reduceCtorEq,Nat.reduceBEq,Nat.reduceLT,Nat.reduceEqDiff,decide_eq_true hv,decide_eq_false h0,decide_eq_false h1];refine fun_ret (hi _) ?_;simp -dsimp -implicitDefEqProofs only[aw,V.copy,eq_self,reduceIte,reduceCtorEq,Nat.reduceBEq,Nat.reduceLT,Nat.reduceEqDiff];first|exact fin_ret hb rfl rfl List.take_length ⟨rfl,rfl⟩|exact fin_ret hb rfl rfl List.take_left ⟨rfl,rfl⟩|(trace_state;fail "fin")
 ·have:itemsT l n=[]:=by unfold itemsT;rw[if_neg (fun h=>hv h.1)]
  rw[this];simp -dsimp -implicitDefEqProofs only[aw,V.copy,V.lend,eq_self,reduceIte,reduceCtorEq,Nat.reduceBEq,Nat.reduceLT,Nat.reduceEqDiff,decide_eq_false hv];first|exact fin_ret hb rfl rfl List.take_length ⟨rfl,rfl⟩|exact fin_ret hb rfl rfl List.take_left ⟨rfl,rfl⟩|(trace_state;fail "fin")
theorem items_law(l:List It)(n:Int)(hbig:ibigs l≤1100000)(σ:List (List V)):Fun G 6 [.d (ditl l),.d (dint n)] σ (RetV (vbool true) σ):=by
 refine fun_code Tryz.func6 k6 rfl fun hb hw=>?_;unfold c6;simp -dsimp -implicitDefEqProofs only[aw,slots0,V.copy,V.lend,eq_self,reduceIte,reduceCtorEq,Nat.reduceBEq,Nat.reduceLT,Nat.reduceEqDiff];refine fun_ret (ctItems_fun l n hbig _) ?_;simp -dsimp -implicitDefEqProofs only[aw,V.copy,V.lend,eq_self,reduceIte,reduceCtorEq,Nat.reduceLT,Nat.reduceEqDiff];refine fun_ret (rItems_fun l n hbig _) ?_;simp -dsimp -implicitDefEqProofs only[aw,V.copy,V.lend,eq_self,reduceIte,reduceCtorEq,Nat.reduceLT,Nat.reduceEqDiff,decide_true];refine fun_ret (awake_fun _) ?_;simp -dsimp -implicitDefEqProofs only[aw,V.copy,cond_true,eq_self,reduceIte,reduceCtorEq,Nat.reduceBEq,Nat.reduceLT,Nat.reduceEqDiff];first|exact fin_ret hb rfl rfl List.take_length ⟨rfl,rfl⟩|exact fin_ret hb rfl rfl List.take_left ⟨rfl,rfl⟩|(trace_state;fail "fin")
end Go.Proofs.YtcbahpllcfbkmaaGreatDoor
namespace Go.Proofs.YtcbahpllcfbkmaaGreatDoor
open Go.ChangeShapes Go.WideShapes Go.ChangeAt Go.RowKit
set_option maxRecDepth 100000 in
theorem classtextItems_contract(H:Type)(enc:TypeId×Value→H)(W:World)(base:Nat)(args:Array Value)(ds gs:List (DataW H))(before:List MemPlace)
 (hval:∀(j:Nat) t v,Tryz.f6.params[j]? = some t→args[j]? = some v→Value.okWide Tryz.prog W .any base t v)
 (hW:DataW.Whole enc Tryz.prog Tryz.f6.params.toList Rows.classtextItemsSpec.vars false W args.toList ds gs before)(hL:laidMetH Tryz.prog row12 W)(hk:Rows.uptoSmall H (ds++gs)=true):
 Calls Tryz.prog 6 args W fun e W'=>∃v,e=.returned v∧Rows.classtextItemsSpec.post enc Tryz.prog Tryz.f6 false true false false W args v W':=by
 have hW':=hW;obtain⟨p,q,hA0,hV0,rfl,hfz,hnd⟩:=hW;have hA:DataW.TrodAll enc Tryz.prog W 0 (fun _=>true) true Tryz.f6.params.toList args.toList ds p:=hA0;have hV:DataW.TrodVars enc Tryz.prog W (fun _=>true) [] gs q:=hV0;rw[Tryz.params6]at hA hval;obtain⟨v0,v1,d0,d1,p0,p1,rfl,rfl,rfl,h0,h1⟩:=trodAll_two hA;obtain⟨rfl,rfl⟩:=trodVars_none hV;have lt0:=lt_of_trod h0;obtain⟨l0,hv0,hb0⟩:=its_trod h0 (hval 0 33 v0 rfl rfl);have lt1:=lt_of_trod h1;obtain⟨n1,hv1,hb1⟩:=int_trod h1 (hval 1 3 v1 rfl rfl)
 have hbd:Rows.uptoBulk d0+(Rows.uptoBulk d1+0)≤1048576:=by
  have:=of_decide_eq_true hk;simpa only[List.cons_append,List.nil_append,Rows.uptoBulkAll]using this
 have e1:Rows.classtextItemsSpec.fn H ([d0,d1]++[])={results:=[.lit (.bool true)],args:=[d0,d1]}:=by simp[Rows.classtextItemsSpec]
 refine(calls_of_fun12 (vs:=[v0,v1]) hL (items_law l0 n1 (by omega) []) rfl (fun i h h'=>?_)).mono fun en W' ⟨he,hx⟩=>?_
 ·match i,h with
  | 0,_=>exact .d hv0
  | 1,_=>exact .d hv1
 subst he;have bel:=hx.below;refine⟨_,rfl,_,_,_,[],p0++p1,[],hW',?_,?_,?_,bel.frame _,fun h=>by cases h⟩
 ·rw[e1];exact trodAll_mk1 (shut_bool Tryz.underlying4 true)
 ·rw[e1];exact trodAll_mk2 (Below.trod Tryz.laidOut (by kernel_rfl) (of_decide_eq_true (by kernel_rfl)) h0 bel lt0) (Below.trod Tryz.laidOut (by kernel_rfl) (of_decide_eq_true (by kernel_rfl)) h1 bel lt1)
 ·rw[e1];rfl
set_option maxRecDepth 100000 in
theorem classtextItems_lifted(os:Os)(started:os.Started)(H:Type)(enc:TypeId×Value→H)(F:Stop.Interp):
 ReturnsInHanded {} Tryz.checked os 6 .any ((Rows.OpenSpec.upto Rows.classtextItemsSpec).preRow enc Tryz.prog Tryz.f6 Rows.classtextItemsUptoRow.domain false Rows.classtextItemsUptoRow.laid) (((Rows.OpenSpec.upto Rows.classtextItemsSpec).at F).post enc Tryz.prog Tryz.f6 false true false false):=by
 have hx:DataW.whole enc Tryz.prog ((laidWorld os).forCall (fun _ _=>0) ⟨#[],#[.slice none 0 0,.int .i64 0],[]⟩).memory Tryz.f6.params.toList Rows.classtextItemsSpec.vars false #[Value.slice none 0 0,Value.int .i64 0].toList 8=some ([.nil,.lit (.int .i64 0)],[],[]):=by kernel_rfl
 refine returnsInHanded_of_row (C:=Tryz.checked) (s:=Rows.OpenSpec.upto Rows.classtextItemsSpec) Tryz.own started (by kernel_rfl) Tryz.func6
  (witness_row_atRef (enc:=enc) (C:=Tryz.checked) false (laidWorld os) #[.slice none 0 0,.int .i64 0] rfl (by kernel_rfl) (by kernel_rfl) (by kernel_rfl)
    (OpenSpec.preRow_of_cond 8 hx (by kernel_rfl) (fun k hk=>by cases hk;kernel_rfl) (by kernel_rfl) (laidWorld_met os _))) ?_
 intro W base args ds gs before hval hW _ hcond _ hL _ _;exact classtextItems_contract H enc W base args ds gs before hval hW hL (hcond _ rfl)
theorem classtextItems_upto:Rows.ClasstextItemsUptoSaid:=
 OpenClaim.holds_of_cond 6 Tryz.f6 rfl rfl rfl rfl rfl rfl rfl ⟨rfl,rfl,rfl,rfl,rfl⟩ rfl rfl rfl rfl rfl (by kernel_rfl) Tryz.func6 (by kernel_rfl)
  (of_decide_eq_true (by kernel_rfl)) (by unfold Func.isWrapper;first|(rw[if_pos (by decide +kernel)];kernel_rfl)|(rw[if_neg (by decide +kernel)];exact⟨rfl,rfl⟩))
  (fun os started H enc _ F=>by rw[OpenClaim.pre_eq_preRow];exact classtextItems_lifted os started H enc F)
#print axioms classtextItems_upto
end Go.Proofs.YtcbahpllcfbkmaaGreatDoor
