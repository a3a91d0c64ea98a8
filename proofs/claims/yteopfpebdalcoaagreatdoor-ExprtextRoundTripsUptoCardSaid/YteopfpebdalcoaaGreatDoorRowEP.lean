/-
  The laws of this chapter: the example, and Print. The row of ExprtextPrints, for inputs of a bounded bulk.
-/
import Derived.Test.YteopfpebdalcoaaGreatDoorPm11
import Derived.Test.YteopfpebdalcoaaGreatDoorPg
set_option linter.unusedVariables false
set_option linter.unusedSimpArgs false
set_option linter.unusedSectionVars false
namespace Go.Proofs.YteopfpebdalcoaaGreatDoor
open Go.RowKit
def awA : Ex := .mk 2 0 ⟨#[97]⟩ []
def awB : Ex := .mk 2 0 ⟨#[98]⟩ []
def awC : Ex := .mk 2 0 ⟨#[99]⟩ []
def awE1 : Ex := .mk 9 0 ⟨#[]⟩ [.mk 7 0 ⟨#[]⟩ [awA, awB], awC]
def awE2 : Ex := .mk 7 0 ⟨#[]⟩ [awA, .mk 9 0 ⟨#[]⟩ [awB, awC]]
theorem aw_text : (if validE awE1 = 0 then textE awE1 else []) = [40, 97, 32, 43, 32, 98, 41, 32, 42, 32, 99] := by kernel_rfl
theorem aw_p1 : parseL [97, 32, 43, 32, 98, 32, 42, 32, 99] = (awE2, 0, 0) := by kernel_rfl
theorem aw_p2 : parseL [97, 32, 43] = (z0, 1, 6) := by kernel_rfl
theorem aw_p3 : parseL [97, 32, 98] = (z0, 1, 5) := by kernel_rfl
theorem sameL_refl9 : ∀ (l : List Ex), (∀ a, a ∈ l → sameE a a = true) → sameL l l = true
  | [], _ => rfl
  | a :: r, h => by simp only [sameL, h a (by simp), sameL_refl9 r (fun b hb => h b (by simp [hb])), Bool.and_self]
theorem sameE_refl9 (a : Ex) : sameE a a = true := by
  induction a using Ex.ind with
  | h o n s l ih =>
    rw [sameE_eq]
    simp only [decide_true, Bool.true_and]
    exact sameL_refl9 _ ih
theorem aw9_fun (σ : List (List V)) : Fun G 9 [] σ (RetV (.d (.lit (.bool true))) σ) := by
  have hpr := fun_etPrint awE1 (by decide) (by decide)
  rw [aw_text] at hpr
  have h1 := fun σ => parse_fun [97, 32, 43, 32, 98, 32, 42, 32, 99] σ
  have h2 := fun σ => parse_fun [97, 32, 43] σ
  have h3 := fun σ => parse_fun [97, 32, 98] σ
  have hs := fun σ => rsame_fun awE2 awE2 σ
  rw [aw_p1] at h1
  rw [aw_p2] at h2
  rw [aw_p3] at h3
  rw [sameE_refl9] at hs
  unfold triV at h1 h2 h3
  simp only at h1 h2 h3
  rw [vex_z0] at h2 h3
  rw [vex_eq] at h1 hpr hs
  simp only [awE1, awE2, awA, awB, awC, mk_op, mk_num, mk_name, mk_args, List.map_cons, List.map_nil, dex_eq] at h1 hpr hs
  refine fun_code Tryz.func9 k9 rfl fun hb hw => ?_
  delta c9 oM oV kI kS kT kF
  simp -dsimp -implicitDefEqProofs only [aw, slots0, V.copy, V.lend, V.lend1, V.cells, V.boxable, over, bldV, rowsOf, plains, V.plain, Nat.reduceLeDiff, eq_self, reduceIte, Nat.reduceBEq, Nat.reduceLT, Nat.reduceEqDiff, Nat.reduceAdd]
  refine fun_ret (hpr _) ?_
  simp -dsimp -implicitDefEqProofs only [aw, V.copy, V.lend, eq_self, reduceIte, Nat.reduceBEq, Nat.reduceLT, Nat.reduceEqDiff]
  refine fun_ret (h1 _) ?_
  simp -dsimp -implicitDefEqProofs only [aw, V.copy, V.lend, V.cells, V.boxable, over, Nat.reduceLeDiff, eq_self, reduceIte, Nat.reduceBEq, Nat.reduceLT, Nat.reduceEqDiff, Nat.reduceAdd]
  refine fun_ret (h2 _) ?_
  simp -dsimp -implicitDefEqProofs only [aw, V.copy, V.lend, V.cells, V.boxable, over, Nat.reduceLeDiff, eq_self, reduceIte, Nat.reduceBEq, Nat.reduceLT, Nat.reduceEqDiff, Nat.reduceAdd]
  refine fun_ret (h3 _) ?_
  have ht : decide (bs [40, 97, 32, 43, 32, 98, 41, 32, 42, 32, 99] = (⟨#[40, 97, 32, 43, 32, 98, 41, 32, 42, 32, 99]⟩ : ByteArray)) = true := rfl
  simp -dsimp -implicitDefEqProofs only [aw, V.copy, V.lend, V.lend1, V.cells, V.boxable, over, bldV, rowsOf, plains, V.plain, Nat.reduceLeDiff, eq_self, reduceIte, Nat.reduceBEq, Nat.reduceLT, Nat.reduceEqDiff, Nat.reduceAdd, ht]
  refine fun_ret (hs _) ?_
  simp -dsimp -implicitDefEqProofs only [aw, V.copy, cond_true, eq_self, reduceIte, reduceCtorEq, Nat.reduceBEq, Nat.reduceLT, Nat.reduceEqDiff, decide_true]
  first | exact fin_ret hb rfl rfl List.take_length ⟨rfl, rfl⟩ | exact fin_ret hb rfl rfl List.take_left ⟨rfl, rfl⟩
theorem prints_fun (e : Ex) (hs : esize e ≤ 1000000) (hd : edepth e ≤ 999999) : Fun G 3 [vex e] [] (RetV (.d (.lit (.bool true))) []) := by
  refine fun_code Tryz.func3 k3 (by simp only [vex_eq]; rfl) fun hb hw => ?_
  delta c3 oM oV kI kS kT kF
  have h1 := fun_etPrint e hs (by omega)
  have h2 := fun_r9Print e hs hd
  generalize bs (if validE e = 0 then textE e else []) = T at *
  simp -dsimp -implicitDefEqProofs only [aw, slots0, V.copy, V.lend, V.lend1, V.cells, V.boxable, Nat.reduceLeDiff, eq_self, reduceIte, reduceCtorEq, Nat.reduceBEq, Nat.reduceLT, Nat.reduceEqDiff, Nat.reduceAdd, vex_eq]
  refine calm_ret (by simpa only [vex_eq] using h1 _) ?_
  simp -dsimp -implicitDefEqProofs only [aw, V.copy, V.lend, V.lend1, Nat.reduceLeDiff, eq_self, reduceIte, Nat.reduceLT, Nat.reduceEqDiff, Nat.reduceAdd]
  refine calm_ret (by simpa only [vex_eq] using h2 _) ?_
  simp -dsimp -implicitDefEqProofs only [aw, V.copy, V.lend, eq_self, reduceIte, Nat.reduceLT, Nat.reduceEqDiff, decide_true]
  refine calm_ret (aw9_fun _) ?_
  simp -dsimp -implicitDefEqProofs only [aw, V.copy, cond_true, eq_self, reduceIte, Nat.reduceBEq, Nat.reduceLT, Nat.reduceEqDiff]
  first | exact fin_ret hb rfl rfl List.take_length ⟨rfl, rfl⟩ | exact fin_ret hb rfl rfl List.take_left ⟨rfl, rfl⟩
theorem parse_text {e : Ex} (h : validE e = 0) : parseL (textE e) = if 16384 < (textE e).length then (z0, 0, 2) else (e, 0, 0) := by
  have hp : parseT (toksE e) = (e, 0, 0) := by
    unfold parseT
    rw [text_parse (valid_err h).1]
    simp only
    rw [if_pos h]
  have ht := text_toks (valid_err h).1
  generalize textE e = l at *
  unfold parseL
  by_cases hl : 16384 < l.length
  · rw [if_pos hl, if_pos hl]
  · rw [if_neg hl, if_neg hl, ht]
    exact hp
theorem rounds_fun (e : Ex) (hs : esize e ≤ 1000000) (hd : edepth e ≤ 999999) : Fun G 4 [vex e] [] (RetV (.d (.lit (.bool true))) []) := by
  refine fun_code Tryz.func4 k4 (by simp only [vex_eq]; rfl) fun hb hw => ?_
  delta c4 oM oV kI kS kT kF
  have hv := fun_rvalid e hs hd
  have hp := fun_etPrint e hs (by omega)
  by_cases h0 : validE e = 0
  · rw [if_pos h0] at hp
    have hpa := fun σ => parse_fun (textE e) σ
    rw [parse_text h0] at hpa
    have hsm := fun σ => rsame_fun e e σ
    rw [sameE_refl9] at hsm
    simp -dsimp -implicitDefEqProofs only [aw, slots0, V.copy, V.lend, V.lend1, V.cells, V.boxable, Nat.reduceLeDiff, eq_self, reduceIte, reduceCtorEq, Nat.reduceBEq, Nat.reduceLT, Nat.reduceEqDiff, Nat.reduceAdd, vex_eq]
    refine fun_ret (by simpa only [vex_eq] using hv _) ?_
    simp -dsimp -implicitDefEqProofs only [aw, V.copy, V.lend, V.lend1, Nat.reduceLeDiff, eq_self, reduceIte, Nat.reduceBEq, Nat.reduceLT, Nat.reduceEqDiff, Nat.reduceAdd, decide_eq_true h0]
    refine fun_ret (by simpa only [vex_eq] using hp _) ?_
    simp -dsimp -implicitDefEqProofs only [aw, V.copy, V.lend, eq_self, reduceIte, Nat.reduceBEq, Nat.reduceLT, Nat.reduceEqDiff]
    refine fun_ret (hpa _) ?_
    by_cases hl : 16384 < (textE e).length
    · have hl' : (16384 : Int) < (((textE e).length : Nat) : Int) := by omega
      rw [if_pos hl]
      simp -dsimp -implicitDefEqProofs only [aw, V.copy, V.lend, V.cells, V.boxable, over, Nat.reduceLeDiff, eq_self, reduceIte, Nat.reduceBEq, Nat.reduceLT, Nat.reduceEqDiff, Nat.reduceAdd, triV, vex_z0, bs_size, decide_eq_true hl']
      refine fun_ret (aw9_fun _) ?_
      simp -dsimp -implicitDefEqProofs only [aw, V.copy, cond_true, eq_self, reduceIte, Nat.reduceBEq, Nat.reduceLT, Nat.reduceEqDiff]
      first | exact fin_ret hb rfl rfl List.take_length ⟨rfl, rfl⟩ | exact fin_ret hb rfl rfl List.take_left ⟨rfl, rfl⟩
    · have hl' : ¬ (16384 : Int) < (((textE e).length : Nat) : Int) := by omega
      rw [if_neg hl]
      simp -dsimp -implicitDefEqProofs only [aw, V.copy, V.lend, V.lend1, V.cells, V.boxable, over, Nat.reduceLeDiff, cond_true, eq_self, reduceIte, Nat.reduceBEq, Nat.reduceLT, Nat.reduceEqDiff, Nat.reduceAdd, triV, vex_eq, bs_size, decide_eq_false hl', decide_true]
      refine fun_ret (by simpa only [vex_eq] using hsm _) ?_
      simp -dsimp -implicitDefEqProofs only [aw, V.copy, V.lend, cond_true, cond_false, eq_self, reduceIte, Nat.reduceLT, Nat.reduceEqDiff]
      refine fun_ret (aw9_fun _) ?_
      simp -dsimp -implicitDefEqProofs only [aw, V.copy, cond_true, eq_self, reduceIte, Nat.reduceBEq, Nat.reduceLT, Nat.reduceEqDiff]
      first | exact fin_ret hb rfl rfl List.take_length ⟨rfl, rfl⟩ | exact fin_ret hb rfl rfl List.take_left ⟨rfl, rfl⟩
  · rw [if_neg h0] at hp
    have hb0 : decide (bs [] = (⟨#[]⟩ : ByteArray)) = true := rfl
    simp -dsimp -implicitDefEqProofs only [aw, slots0, V.copy, V.lend, V.lend1, V.cells, V.boxable, Nat.reduceLeDiff, eq_self, reduceIte, reduceCtorEq, Nat.reduceBEq, Nat.reduceLT, Nat.reduceEqDiff, Nat.reduceAdd, vex_eq]
    refine fun_ret (by simpa only [vex_eq] using hv _) ?_
    simp -dsimp -implicitDefEqProofs only [aw, V.copy, V.lend, V.lend1, Nat.reduceLeDiff, eq_self, reduceIte, Nat.reduceBEq, Nat.reduceLT, Nat.reduceEqDiff, Nat.reduceAdd, decide_eq_false h0]
    refine fun_ret (by simpa only [vex_eq] using hp _) ?_
    simp -dsimp -implicitDefEqProofs only [aw, V.copy, V.lend, eq_self, reduceIte, Nat.reduceLT, Nat.reduceEqDiff, hb0]
    refine fun_ret (aw9_fun _) ?_
    simp -dsimp -implicitDefEqProofs only [aw, V.copy, cond_true, eq_self, reduceIte, Nat.reduceBEq, Nat.reduceLT, Nat.reduceEqDiff]
    first | exact fin_ret hb rfl rfl List.take_length ⟨rfl, rfl⟩ | exact fin_ret hb rfl rfl List.take_left ⟨rfl, rfl⟩
end Go.Proofs.YteopfpebdalcoaaGreatDoor
namespace Go.Proofs.YteopfpebdalcoaaGreatDoor
open Go.ChangeShapes Go.WideShapes Go.ChangeAt Go.RowKit
set_option maxRecDepth 100000 in
theorem exprtextPrints_contract (H : Type) (enc : TypeId × Value → H) (W : World) (base : Nat) (args : Array Value) (ds gs : List (DataW H)) (before : List MemPlace)
    (hval : ∀ (j : Nat) t v, Tryz.f3.params[j]? = some t → args[j]? = some v → Value.okWide Tryz.prog W .any base t v)
    (hW : DataW.Whole enc Tryz.prog Tryz.f3.params.toList Rows.exprtextPrintsSpec.vars false W args.toList ds gs before) (hL : laidMetH Tryz.prog row7 W) (hk : Rows.uptoSmall H (ds ++ gs) = true) :
    Calls Tryz.prog 3 args W fun e W' => ∃ v, e = .returned v ∧ Rows.exprtextPrintsSpec.post enc Tryz.prog Tryz.f3 false true false false W args v W' := by
  have hW' := hW
  obtain ⟨p, q, hA0, hV0, rfl, hfz, hnd⟩ := hW
  have hA : DataW.TrodAll enc Tryz.prog W 0 (fun _ => true) true Tryz.f3.params.toList args.toList ds p := hA0
  have hV : DataW.TrodVars enc Tryz.prog W (fun _ => true) [] gs q := hV0
  rw [Tryz.params3] at hA hval
  obtain ⟨v0, d0, rfl, rfl, h0⟩ := trodAll_one hA
  obtain ⟨rfl, rfl⟩ := trodVars_none hV
  have lt0 := lt_of_trod h0
  obtain ⟨e, hv, hb⟩ := ex_trod h0 (hval 0 24 v0 rfl rfl)
  have hbd : Rows.uptoBulk d0 + 0 ≤ 1048576 := by
    have := of_decide_eq_true hk
    simpa only [List.cons_append, List.nil_append, Rows.uptoBulkAll] using this
  have hde := depth_le e
  have e1 : Rows.exprtextPrintsSpec.fn H ([d0] ++ []) = { results := [.lit (.bool true)], args := [d0] } := by simp [Rows.exprtextPrintsSpec]
  refine (calls_of_fun7 (vs := [v0]) hL (prints_fun e (by omega) (by omega)) rfl (fun i h h' => ?_)).mono fun en W' ⟨he, hx⟩ => ?_
  · match i, h with
    | 0, _ => exact hv
  subst he
  have bel := hx.below
  refine ⟨_, rfl, _, _, _, [], p, [], hW', ?_, ?_, ?_, bel.frame _, fun h => by cases h⟩
  · rw [e1]; exact trodAll_mk1 (shut_bool Tryz.underlying4 true)
  · rw [e1]; exact trodAll_mk1 (Below.trod Tryz.laidOut (by kernel_rfl) (of_decide_eq_true (by kernel_rfl)) h0 bel lt0)
  · rw [e1]; rfl
set_option maxRecDepth 100000 in
theorem exprtextPrints_lifted (os : Os) (started : os.Started) (H : Type) (enc : TypeId × Value → H) (F : Stop.Interp) :
    ReturnsInHanded {} Tryz.checked os 3 .any ((Rows.OpenSpec.upto Rows.exprtextPrintsSpec).preRow enc Tryz.prog Tryz.f3 Rows.exprtextPrintsUptoRow.domain false Rows.exprtextPrintsUptoRow.laid) (((Rows.OpenSpec.upto Rows.exprtextPrintsSpec).at F).post enc Tryz.prog Tryz.f3 false true false false) := by
  have hx : DataW.whole enc Tryz.prog ((laidWorld os).forCall (fun _ _ => 0) ⟨#[], #[.agg exZero], []⟩).memory Tryz.f3.params.toList Rows.exprtextPrintsSpec.vars false #[Value.agg exZero].toList 8 = some ([.agg [.lit (.int .i64 0), .lit (.int .i64 0), .lit (.string []), .nil]], [], []) := by kernel_rfl
  refine returnsInHanded_of_row (C := Tryz.checked) (s := Rows.OpenSpec.upto Rows.exprtextPrintsSpec) Tryz.own started (by kernel_rfl) Tryz.func3
    (witness_row_atRef (enc := enc) (C := Tryz.checked) false (laidWorld os) #[.agg exZero] rfl (by kernel_rfl) (by kernel_rfl) (by kernel_rfl)
      (OpenSpec.preRow_of_cond 8 hx (by kernel_rfl) (fun k hk => by cases hk; kernel_rfl) (by kernel_rfl) (laidWorld_met os _))) ?_
  intro W base args ds gs before hval hW _ hcond _ hL _ _
  exact exprtextPrints_contract H enc W base args ds gs before hval hW hL (hcond _ rfl)
theorem exprtextPrints_upto : Rows.ExprtextPrintsUptoSaid :=
  OpenClaim.holds_of_cond 3 Tryz.f3 rfl rfl rfl rfl rfl rfl rfl ⟨rfl, rfl, rfl, rfl, rfl⟩ rfl rfl rfl rfl rfl (by kernel_rfl) Tryz.func3 (by kernel_rfl)
    (of_decide_eq_true (by kernel_rfl)) (by unfold Func.isWrapper; first | (rw [if_pos (by decide +kernel)]; kernel_rfl) | (rw [if_neg (by decide +kernel)]; exact ⟨rfl, rfl⟩))
    (fun os started H enc _ F => by rw [OpenClaim.pre_eq_preRow]; exact exprtextPrints_lifted os started H enc F)
#print axioms exprtextPrints_upto
end Go.Proofs.YteopfpebdalcoaaGreatDoor
