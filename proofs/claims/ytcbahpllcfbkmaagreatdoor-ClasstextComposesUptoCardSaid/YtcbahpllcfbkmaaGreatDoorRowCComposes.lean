import Derived.Test.YtcbahpllcfbkmaaGreatDoorCy7
import Derived.Test.YtcbahpllcfbkmaaGreatDoorIs3
set_option linter.unusedVariables false
set_option linter.unusedSimpArgs false
set_option linter.unusedSectionVars false
namespace Go.Proofs.YtcbahpllcfbkmaaGreatDoor
open Go.ChangeShapes Go.WideShapes Go.ChangeAt Go.RowKit
set_option maxRecDepth 100000 in
theorem ew(H:Type)(enc:TypeId×Value→H)(W:World)(base:Nat)(args:Array Value)(ds gs:List (DataW H))(before:List MemPlace)
 (hval:∀(j:Nat) t v,Tryz.f7.params[j]? = some t→args[j]? = some v→Value.okWide Tryz.prog W .any base t v)
 (hW:DataW.Whole enc Tryz.prog Tryz.f7.params.toList Rows.classtextComposesSpec.vars false W args.toList ds gs before)(hL:laidMetH Tryz.prog km W)(hk:Rows.uptoSmall H (ds++gs)=true):
 Calls Tryz.prog 7 args W fun e W'=>∃v,e=.returned v∧Rows.classtextComposesSpec.post enc Tryz.prog Tryz.f7 false true false false W args v W':=by
 have hW':=hW;obtain⟨p,q,hA0,hV0,rfl,hfz,hnd⟩:=hW;have hA:DataW.TrodAll enc Tryz.prog W 0 (fun _=>true) true Tryz.f7.params.toList args.toList ds p:=hA0;have hV:DataW.TrodVars enc Tryz.prog W (fun _=>true) [] gs q:=hV0;rw[Tryz.params7]at hA hval;obtain⟨v0,v1,v2,d0,d1,d2,p0,p1,p2,rfl,rfl,rfl,h0,h1,h2⟩:=trodAll_three hA;obtain⟨rfl,rfl⟩:=trodVars_none hV;have lt0:=gS h0;obtain⟨l0,hv0,hb0⟩:=nx h0 (hval 0 33 v0 rfl rfl);have lt1:=gS h1;obtain⟨l1,hv1,hb1⟩:=nx h1 (hval 1 33 v1 rfl rfl);have lt2:=gS h2;obtain⟨n2,hv2,hb2⟩:=yu h2 (hval 2 5 v2 rfl rfl)
 have hbd:Rows.uptoBulk d0+(Rows.uptoBulk d1+(Rows.uptoBulk d2+0))≤1048576:=by
  have:=of_decide_eq_true hk;simpa only[List.cons_append,List.nil_append,Rows.uptoBulkAll]using this
 have e1:Rows.classtextComposesSpec.fn H ([d0,d1,d2]++[])={results:=[.lit (.bool true)],args:=[d0,d1,d2]}:=by simp[Rows.classtextComposesSpec]
 refine(j6 (vs:=[v0,v1,v2]) hL (mw l0 l1 n2 (by omega) hb2.1 hb2.2 []) rfl (fun i h h'=>?_)).mono fun en W' ⟨he,hx⟩=>?_
 ·match i,h with
  | 0,_=>exact .d hv0
  | 1,_=>exact .d hv1
  | 2,_=>exact .d hv2
 subst he;have bel:=hx.below;refine⟨_,rfl,_,_,_,[],p0++(p1++p2),[],hW',?_,?_,?_,bel.frame _,fun h=>by cases h⟩
 ·rw[e1];exact trodAll_mk1 (shut_bool Tryz.underlying4 true)
 ·rw[e1];exact trodAll_mk3 (Below.trod Tryz.laidOut (by kernel_rfl) (of_decide_eq_true (by kernel_rfl)) h0 bel lt0) (Below.trod Tryz.laidOut (by kernel_rfl) (of_decide_eq_true (by kernel_rfl)) h1 bel lt1) (Below.trod Tryz.laidOut (by kernel_rfl) (of_decide_eq_true (by kernel_rfl)) h2 bel lt2)
 ·rw[e1];rfl
set_option maxRecDepth 100000 in
theorem e6(os:Os)(started:os.Started)(H:Type)(enc:TypeId×Value→H)(F:Stop.Interp):
 ReturnsInHanded {} Tryz.checked os 7 .any ((Rows.OpenSpec.upto Rows.classtextComposesSpec).preRow enc Tryz.prog Tryz.f7 Rows.classtextComposesUptoRow.domain false Rows.classtextComposesUptoRow.laid) (((Rows.OpenSpec.upto Rows.classtextComposesSpec).at F).post enc Tryz.prog Tryz.f7 false true false false):=by
 have hx:DataW.whole enc Tryz.prog ((jb os).forCall (fun _ _=>0) ⟨#[],#[.slice none 0 0,.slice none 0 0,.int .u8 0],[]⟩).memory Tryz.f7.params.toList Rows.classtextComposesSpec.vars false #[Value.slice none 0 0,Value.slice none 0 0,Value.int .u8 0].toList 8=some ([.nil,.nil,.lit (.int .u8 0)],[],[]):=by kernel_rfl
 refine returnsInHanded_of_row (C:=Tryz.checked) (s:=Rows.OpenSpec.upto Rows.classtextComposesSpec) Tryz.own started (by kernel_rfl) Tryz.func7
  (witness_row_atRef (enc:=enc) (C:=Tryz.checked) false (jb os) #[.slice none 0 0,.slice none 0 0,.int .u8 0] rfl (by kernel_rfl) (by kernel_rfl) (by kernel_rfl)
    (OpenSpec.preRow_of_cond 8 hx (by kernel_rfl) (fun k hk=>by cases hk;kernel_rfl) (by kernel_rfl) (ln os _))) ?_
 intro W base args ds gs before hval hW _ hcond _ hL _ _;exact ew H enc W base args ds gs before hval hW hL (hcond _ rfl)
theorem dl:Rows.ClasstextComposesUptoSaid:=
 OpenClaim.holds_of_cond 7 Tryz.f7 rfl rfl rfl rfl rfl rfl rfl ⟨rfl,rfl,rfl,rfl,rfl⟩ rfl rfl rfl rfl rfl (by kernel_rfl) Tryz.func7 (by kernel_rfl)
  (of_decide_eq_true (by kernel_rfl)) (by unfold Func.isWrapper;first|(rw[if_pos (by decide +kernel)];kernel_rfl)|(rw[if_neg (by decide +kernel)];exact⟨rfl,rfl⟩))
  (fun os started H enc _ F=>by rw[OpenClaim.pre_eq_preRow];exact e6 os started H enc F)
#print axioms dl
end Go.Proofs.YtcbahpllcfbkmaaGreatDoor
