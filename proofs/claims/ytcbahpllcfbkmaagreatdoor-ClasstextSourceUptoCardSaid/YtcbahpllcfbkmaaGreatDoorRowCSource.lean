import Derived.Test.YtcbahpllcfbkmaaGreatDoorCz6
import Derived.Test.YtcbahpllcfbkmaaGreatDoorRow12
set_option linter.unusedVariables false
set_option linter.unusedSimpArgs false
set_option linter.unusedSectionVars false
namespace Go.Proofs.YtcbahpllcfbkmaaGreatDoor
open Go.ChangeShapes Go.WideShapes Go.ChangeAt Go.RowKit
set_option maxRecDepth 100000 in
theorem fu(H:Type)(enc:TypeId×Value→H)(W:World)(base:Nat)(args:Array Value)(ds gs:List (DataW H))(before:List MemPlace)
 (hval:∀(j:Nat) t v,Tryz.f8.params[j]? = some t→args[j]? = some v→Value.okWide Tryz.prog W .any base t v)
 (hW:DataW.Whole enc Tryz.prog Tryz.f8.params.toList Rows.classtextSourceSpec.vars false W args.toList ds gs before)(hL:laidMetH Tryz.prog jO W)(hk:Rows.uptoSmall H (ds++gs)=true):
 Calls Tryz.prog 8 args W fun e W'=>∃v,e=.returned v∧Rows.classtextSourceSpec.post enc Tryz.prog Tryz.f8 false true false false W args v W':=by
 have hW':=hW;obtain⟨p,q,hA0,hV0,rfl,hfz,hnd⟩:=hW;have hA:DataW.TrodAll enc Tryz.prog W 0 (fun _=>true) true Tryz.f8.params.toList args.toList ds p:=hA0;have hV:DataW.TrodVars enc Tryz.prog W (fun _=>true) [] gs q:=hV0;rw[Tryz.params8]at hA hval;obtain⟨v0,d0,rfl,rfl,h0⟩:=trodAll_one hA;obtain⟨rfl,rfl⟩:=trodVars_none hV;have lt0:=lv h0;obtain⟨l0,hv0,hb0,hl0⟩:=wz h0 (hval 0 40 v0 rfl rfl)
 have hbd:Rows.uptoBulk d0+0≤1048576:=by
  have:=of_decide_eq_true hk;simpa only[List.cons_append,List.nil_append,Rows.uptoBulkAll]using this
 have e1:Rows.classtextSourceSpec.fn H ([d0]++[])={results:=[.lit (.bool true)],args:=[d0]}:=by simp[Rows.classtextSourceSpec]
 refine(gz (vs:=[v0]) hL (qd l0 (by omega) (fun c hc=>by have:=hb0 c hc;exact⟨by omega,by omega,by omega⟩) []) rfl (fun i h h'=>?_)).mono fun en W' ⟨he,hx⟩=>?_
 ·match i,h with
  | 0,_=>exact .d hv0
 subst he;have bel:=hx.below;refine⟨_,rfl,_,_,_,[],p,[],hW',?_,?_,?_,bel.frame _,fun h=>by cases h⟩
 ·rw[e1];exact trodAll_mk1 (shut_bool Tryz.underlying4 true)
 ·rw[e1];exact trodAll_mk1 (Below.trod Tryz.laidOut (by kernel_rfl) (of_decide_eq_true (by kernel_rfl)) h0 bel lt0)
 ·rw[e1];rfl
set_option maxRecDepth 100000 in
theorem fO(os:Os)(started:os.Started)(H:Type)(enc:TypeId×Value→H)(F:Stop.Interp):
 ReturnsInHanded {} Tryz.checked os 8 .any ((Rows.OpenSpec.upto Rows.classtextSourceSpec).preRow enc Tryz.prog Tryz.f8 Rows.classtextSourceUptoRow.domain false Rows.classtextSourceUptoRow.laid) (((Rows.OpenSpec.upto Rows.classtextSourceSpec).at F).post enc Tryz.prog Tryz.f8 false true false false):=by
 have hx:DataW.whole enc Tryz.prog ((fB os).forCall (fun _ _=>0) ⟨#[],#[.slice none 0 0],[]⟩).memory Tryz.f8.params.toList Rows.classtextSourceSpec.vars false #[Value.slice none 0 0].toList 8=some ([.nil],[],[]):=by kernel_rfl
 refine returnsInHanded_of_row (C:=Tryz.checked) (s:=Rows.OpenSpec.upto Rows.classtextSourceSpec) Tryz.own started (by kernel_rfl) Tryz.func8
  (witness_row_atRef (enc:=enc) (C:=Tryz.checked) false (fB os) #[.slice none 0 0] rfl (by kernel_rfl) (by kernel_rfl) (by kernel_rfl)
    (OpenSpec.preRow_of_cond 8 hx (by kernel_rfl) (fun k hk=>by cases hk;kernel_rfl) (by kernel_rfl) (ip os _))) ?_
 intro W base args ds gs before hval hW _ hcond _ hL _ _;exact fu H enc W base args ds gs before hval hW hL (hcond _ rfl)
theorem eu:Rows.ClasstextSourceUptoSaid:=
 OpenClaim.holds_of_cond 8 Tryz.f8 rfl rfl rfl rfl rfl rfl rfl ⟨rfl,rfl,rfl,rfl,rfl⟩ rfl rfl rfl rfl rfl (by kernel_rfl) Tryz.func8 (by kernel_rfl)
  (of_decide_eq_true (by kernel_rfl)) (by unfold Func.isWrapper;first|(rw[if_pos (by decide +kernel)];kernel_rfl)|(rw[if_neg (by decide +kernel)];exact⟨rfl,rfl⟩))
  (fun os started H enc _ F=>by rw[OpenClaim.pre_eq_preRow];exact fO os started H enc F)
#print axioms eu
end Go.Proofs.YtcbahpllcfbkmaaGreatDoor
