/-
  The row of ExprReplaces.
-/
import Derived.Test.YtibfoafepjggjaaDoorReplLaw
import Derived.Test.YtibfoafepjggjaaDoorRow8b
namespace Go.Proofs.YtibfoafepjggjaaDoor
open Go.ChangeShapes Go.WideShapes Go.RowKit

set_option maxRecDepth 100000 in
theorem exprReplaces_lifted (os : Os) (started : os.Started) (H : Type) (enc : TypeId × Value → H) :
    ReturnsInHanded {} Tryd.checked os 6 .any (fun w args => (Rows.exprReplacesSpec.pre enc Tryd.prog Tryd.f6 [] false w args ∧ laidMetH Tryd.prog kwRow w) ∧ sizedMet enc Tryd.prog Tryd.f6 (OpenSpec.ofChange Rows.exprReplacesSpec) false w args)
      (Rows.exprReplacesSpec.post enc Tryd.prog Tryd.f6 false true false false) := by
  refine returnsInHanded_of_change_and (C := Tryd.checked) (X := fun w _ => laidMetH Tryd.prog kwRow w) (fun _ _ _ hh h => h.of_heap hh) Tryd.own started (by kernel_rfl) Tryd.func6
    (ChangeSpec.witness_shaped (enc := enc) (C := Tryd.checked) (os := os) (X := fun w _ => laidMetH Tryd.prog kwRow w) false (laidWorld os) #[.agg #[.int .i64 0, .int .i64 0, .string ⟨#[]⟩, .slice none 0 0], .agg #[.int .i64 0, .int .i64 0, .string ⟨#[]⟩, .slice none 0 0], .slice none 0 0] 8 rfl (World.shaped_of_RefB (by kernel_rfl) (by kernel_rfl)) (by kernel_rfl) (by kernel_rfl) (by kernel_rfl) (laidWorld_met os _)) ?_
  intro W base args ds gs before hval0 hW _ _ hL _
  have hval : ∀ (j : Nat) t v, Tryd.f6.params[j]? = some t → args[j]? = some v → Value.okWide Tryd.prog W .any base t v := hval0
  have hW' := hW
  obtain ⟨p, q, hA0, hV0, rfl, hfz, hnd⟩ := hW
  have hA : DataW.TrodAll enc Tryd.prog W 0 (fun _ => true) true Tryd.f6.params.toList args.toList ds p := hA0
  have hV : DataW.TrodVars enc Tryd.prog W (fun _ => true) [] gs q := hV0
  rw [Tryd.params6] at hA hval
  obtain ⟨v0, v1, v2, d0, d1, d2, p0, p1, p2, rfl, rfl, rfl, h0, h1, h2⟩ := trodAll_three hA
  obtain ⟨rfl, rfl⟩ := trodVars_none hV
  have hk : Keys W := keys_of_laid hL
  have lt0 := lt_of_trod h0
  have lt1 := lt_of_trod h1
  have lt2 := lt_of_trod h2
  obtain ⟨e, hv⟩ := exval_trod h0 (hval 0 24 v0 rfl rfl)
  obtain ⟨e', hv'⟩ := exval_trod h1 (hval 1 24 v1 rfl rfl)
  obtain ⟨env, hv2⟩ := sigs_trod h2 (hval 2 37 v2 rfl rfl)
  have hl : env.length ≤ 9223372036854775807 := by
    generalize hrs : (env.map fun s => [dstr s.name, dint s.val]) = rows at hv2
    have : rows.length = env.length := by rw [← hrs]; simp
    cases hv2 with
    | sl _ k p cap val hk hd hf hc hm => unfold maxLen at hm; omega
  have e1 : Rows.exprReplacesSpec.fn H ([d0, d1, d2] ++ []) = { results := [.lit (.bool true)], args := [d0, d1, d2] } := by simp [Rows.exprReplacesSpec]
  refine (calls_of_fun (vs := [v0, v1, v2]) hk (exprReplaces_fun e e' env hl) rfl (fun i h h' => ?_)).mono fun en W' ⟨he, hx⟩ => ?_
  · match i, h with
    | 0, _ => exact rep_ex hv
    | 1, _ => exact rep_ex hv'
    | 2, _ => exact .d hv2
  subst he
  have bel := hx.below
  refine ⟨_, rfl, _, _, _, [], p0 ++ (p1 ++ p2), [], hW', ?_, ?_, ?_, bel.frame _, fun h => by cases h⟩
  · rw [e1]; exact trodAll_mk1 (shut_bool Tryd.underlying4 true)
  · rw [e1]; exact trodAll_mk3 (Below.trod Tryd.laidOut (by kernel_rfl) (of_decide_eq_true (by kernel_rfl)) h0 bel lt0) (Below.trod Tryd.laidOut (by kernel_rfl) (of_decide_eq_true (by kernel_rfl)) h1 bel lt1) (Below.trod Tryd.laidOut (by kernel_rfl) (of_decide_eq_true (by kernel_rfl)) h2 bel lt2)
  · rw [e1]; rfl
theorem exprReplaces_holds : Rows.ExprReplacesSaid :=
  OpenClaim.holds_of_wide 6 Tryd.f6 rfl rfl rfl rfl rfl rfl rfl ⟨rfl, rfl, rfl, rfl, rfl⟩ rfl rfl rfl rfl rfl (by kernel_rfl) Tryd.func6 (by kernel_rfl)
    (of_decide_eq_true (by kernel_rfl)) (by unfold Func.isWrapper; first | (rw [if_pos (by decide +kernel)]; kernel_rfl) | (rw [if_neg (by decide +kernel)]; exact ⟨rfl, rfl⟩))
    (fun os started H enc _ => exprReplaces_lifted os started H enc)
#print axioms exprReplaces_holds
end Go.Proofs.YtibfoafepjggjaaDoor
