/-
  The laws of this chapter: the example, and Print.
-/
import Derived.Test.YteopfpebdalcoaaGreatDoorPm11
set_option linter.unusedVariables false
set_option linter.unusedSimpArgs false
set_option linter.unusedSectionVars false
namespace Go.Proofs.YteopfpebdalcoaaGreatDoor
open Go.RowKit
def awA : Ex := .mk 2 0 ⟨#[97]⟩ []
def awB : Ex := .mk 2 0 ⟨#[98]⟩ []
def awC : Ex := .mk 2 0 ⟨#[99]⟩ []
def awE1 : Ex := .mk 9 0 ⟨#[]⟩ [.mk 7 0 ⟨#[]⟩ [awA, awB], awC]
def awE2 : Ex := .mk 7 0 ⟨#[]⟩ [awA, .mk 9 0 ⟨#[]⟩ [awB, awC]]
theorem aw_text : (if validE awE1 = 0 then textE awE1 else []) = [40, 97, 32, 43, 32, 98, 41, 32, 42, 32, 99] := by kernel_rfl
theorem aw_p1 : parseL [97, 32, 43, 32, 98, 32, 42, 32, 99] = (awE2, 0, 0) := by kernel_rfl
theorem aw_p2 : parseL [97, 32, 43] = (z0, 1, 6) := by kernel_rfl
theorem aw_p3 : parseL [97, 32, 98] = (z0, 1, 5) := by kernel_rfl
theorem sameL_refl9 : ∀ (l : List Ex), (∀ a, a ∈ l → sameE a a = true) → sameL l l = true
  | [], _ => rfl
  | a :: r, h => by simp only [sameL, h a (by simp), sameL_refl9 r (fun b hb => h b (by simp [hb])), Bool.and_self]
theorem sameE_refl9 (a : Ex) : sameE a a = true := by
  induction a using Ex.ind with
  | h o n s l ih =>
    rw [sameE_eq]
    simp only [decide_true, Bool.true_and]
    exact sameL_refl9 _ ih
theorem valid_size {e : Ex} (h : validE e = 0) : esize e ≤ 400 ∧ edepth e ≤ 24 := by
  have he := (valid_err h).1
  unfold validE at h
  split at h
  · cases h
  · rename_i hn
    have h1 : ¬ (24 < edepth e ∨ 400 < esize e) := fun hh => hn ⟨he, hh⟩
    omega
theorem etprint_valid {e : Ex} (h : validE e = 0) (σ : List (List V)) : Fun G 7 [vex e] σ (RetV (.d (dstr (bs (textE e)))) σ) := by
  obtain ⟨h1, h2⟩ := valid_size h
  have := fun_etPrint e (by omega) (by omega) σ
  rwa [if_pos h] at this
theorem aw9_fun (σ : List (List V)) : Fun G 9 [] σ (RetV (.d (.lit (.bool true))) σ) := by
  have hpr := fun_etPrint awE1 (by decide) (by decide)
  rw [aw_text] at hpr
  have h1 := fun σ => parse_fun [97, 32, 43, 32, 98, 32, 42, 32, 99] σ
  have h2 := fun σ => parse_fun [97, 32, 43] σ
  have h3 := fun σ => parse_fun [97, 32, 98] σ
  have hs := fun σ => rsame_fun awE2 awE2 σ
  rw [aw_p1] at h1
  rw [aw_p2] at h2
  rw [aw_p3] at h3
  rw [sameE_refl9] at hs
  unfold triV at h1 h2 h3
  simp only at h1 h2 h3
  rw [vex_z0] at h2 h3
  rw [vex_eq] at h1 hpr hs
  simp only [awE1, awE2, awA, awB, awC, mk_op, mk_num, mk_name, mk_args, List.map_cons, List.map_nil, dex_eq] at h1 hpr hs
  refine fun_code Tryz.func9 k9 rfl fun hb hw => ?_
  delta c9 oM oV kI kS kT kF
  simp -dsimp -implicitDefEqProofs only [aw, slots0, V.copy, V.lend, V.lend1, V.cells, V.boxable, over, bldV, rowsOf, plains, V.plain, Nat.reduceLeDiff, eq_self, reduceIte, Nat.reduceBEq, Nat.reduceLT, Nat.reduceEqDiff, Nat.reduceAdd]
  refine fun_ret (hpr _) ?_
  simp -dsimp -implicitDefEqProofs only [aw, V.copy, V.lend, eq_self, reduceIte, Nat.reduceBEq, Nat.reduceLT, Nat.reduceEqDiff]
  refine fun_ret (h1 _) ?_
  simp -dsimp -implicitDefEqProofs only [aw, V.copy, V.lend, V.cells, V.boxable, over, Nat.reduceLeDiff, eq_self, reduceIte, Nat.reduceBEq, Nat.reduceLT, Nat.reduceEqDiff, Nat.reduceAdd]
  refine fun_ret (h2 _) ?_
  simp -dsimp -implicitDefEqProofs only [aw, V.copy, V.lend, V.cells, V.boxable, over, Nat.reduceLeDiff, eq_self, reduceIte, Nat.reduceBEq, Nat.reduceLT, Nat.reduceEqDiff, Nat.reduceAdd]
  refine fun_ret (h3 _) ?_
  have ht : decide (bs [40, 97, 32, 43, 32, 98, 41, 32, 42, 32, 99] = (⟨#[40, 97, 32, 43, 32, 98, 41, 32, 42, 32, 99]⟩ : ByteArray)) = true := rfl
  simp -dsimp -implicitDefEqProofs only [aw, V.copy, V.lend, V.lend1, V.cells, V.boxable, over, bldV, rowsOf, plains, V.plain, Nat.reduceLeDiff, eq_self, reduceIte, Nat.reduceBEq, Nat.reduceLT, Nat.reduceEqDiff, Nat.reduceAdd, ht]
  refine fun_ret (hs _) ?_
  simp -dsimp -implicitDefEqProofs only [aw, V.copy, cond_true, eq_self, reduceIte, reduceCtorEq, Nat.reduceBEq, Nat.reduceLT, Nat.reduceEqDiff, decide_true]
  first | exact fin_ret hb rfl rfl List.take_length ⟨rfl, rfl⟩ | exact fin_ret hb rfl rfl List.take_left ⟨rfl, rfl⟩
theorem parse_text {e : Ex} (h : validE e = 0) : parseL (textE e) = if 16384 < (textE e).length then (z0, 0, 2) else (e, 0, 0) := by
  have hp : parseT (toksE e) = (e, 0, 0) := by
    unfold parseT
    rw [text_parse (valid_err h).1]
    simp only
    rw [if_pos h]
  have ht := text_toks (valid_err h).1
  generalize textE e = l at *
  unfold parseL
  by_cases hl : 16384 < l.length
  · rw [if_pos hl, if_pos hl]
  · rw [if_neg hl, if_neg hl, ht]
    exact hp
end Go.Proofs.YteopfpebdalcoaaGreatDoor
