/-
  The parser of expressions: all of its pieces answer as the grammar says. The parser of expressions: attempt, which turns a panic into results.
-/
import Derived.Test.YteopfpebdalcoaaGreatDoorPm8
set_option linter.unusedVariables false
set_option linter.unusedSimpArgs false
set_option linter.unusedSectionVars false
namespace Go.Proofs.YteopfpebdalcoaaGreatDoor
open Go.RowKit
theorem pieces (ts : List Tok) (i : Nat) (H : TsOK ts) : ∀ n a, a ≤ ts.length →
    (40 * (ts.length - a) + 15 ≤ n → ∀ σ : List (List V), σ[i]? = some (pb ts a) → Fun G 48 [.ptr i 0] σ (PQ ts i σ (par .W (ts.drop a)))) ∧
    (40 * (ts.length - a) + 14 ≤ n → ∀ σ : List (List V), σ[i]? = some (pb ts a) → Fun G 86 [.ptr i 0] σ (PQ ts i σ (par .I (ts.drop a)))) ∧
    (∀ k, k ≤ 13 → 40 * (ts.length - a) + (16 - k) ≤ n → ∀ σ : List (List V), σ[i]? = some (pb ts a) → Fun G 116 [.ptr i 0, .d (dint ((k : Nat) : Int))] σ (PQ ts i σ (par (.L k) (ts.drop a)))) ∧
    (∀ e, 40 * (ts.length - a) ≤ n → ∀ σ : List (List V), σ[i]? = some (pb ts a) → Fun G 137 [.ptr i 0, vex e] σ (PQ ts i σ (par (.In e) (ts.drop a)))) ∧
    (40 * (ts.length - a) + 2 ≤ n → ∀ σ : List (List V), σ[i]? = some (pb ts a) → Fun G 136 [.ptr i 0] σ (PQ ts i σ (par .U (ts.drop a)))) ∧
    (40 * (ts.length - a) + 1 ≤ n → ∀ σ : List (List V), σ[i]? = some (pb ts a) → Fun G 152 [.ptr i 0] σ (PQ ts i σ (par .P (ts.drop a)))) := by
  intro n
  induction n using Nat.strongRecOn with
  | _ n ih =>
  intro a ha
  have W : ∀ b, a < b → b ≤ ts.length → 40 * (ts.length - a) ≤ n → ∀ σ : List (List V), σ[i]? = some (pb ts b) → Fun G 48 [.ptr i 0] σ (PQ ts i σ (par .W (ts.drop b))) := fun b hb hb2 hn => (ih (n - 1) (by omega) b hb2).1 (by omega)
  refine ⟨fun hn => ?_, fun hn => ?_, fun k hk hn => ?_, fun e hn => ?_, fun hn => ?_, fun hn => ?_⟩
  · exact whole_fun ts a i H.size H.len ha ((ih (n - 1) (by omega) a ha).2.1 (by omega)) fun b hb hb2 => W b hb hb2 (by omega)
  · refine impl_fun ts a i H.size H.len ha (fun σ hi => ?_) fun b hb hb2 => (ih (n - 1) (by omega) b hb2).2.1 (by omega)
    exact (ih (n - 1) (by omega) a ha).2.2.1 3 (by omega) (by omega) σ hi
  · refine left_fun k hk ts a i H ha (fun σ hi => ?_) (fun hk2 b hb hb2 σ hi => ?_) fun b e hb hb2 => (ih (n - 1) (by omega) b hb2).2.2.2.1 e (by omega)
    · exact (ih (n - 1) (by omega) a ha).2.2.2.2.1 (by omega) σ hi
    · exact (ih (n - 1) (by omega) b hb2).2.2.1 (k + 1) (by omega) (by omega) σ hi
  · exact inside_fun ts a i H ha e fun b hb hb2 => W b hb hb2 hn
  · exact unary_fun ts a i H.size H.len ha ((ih (n - 1) (by omega) a ha).2.2.2.2.2 (by omega)) fun b hb hb2 => (ih (n - 1) (by omega) b hb2).2.2.2.2.1 (by omega)
  · exact primary_fun ts a i H ha fun b hb hb2 => W b hb hb2 (by omega)
theorem whole_par (ts : List Tok) (i : Nat) (H : TsOK ts) (a : Nat) (ha : a ≤ ts.length) (σ : List (List V)) (hi : σ[i]? = some (pb ts a)) : Fun G 48 [.ptr i 0] σ (PQ ts i σ (par .W (ts.drop a))) :=
  (pieces ts i H _ a ha).1 (Nat.le_refl _) σ hi
end Go.Proofs.YteopfpebdalcoaaGreatDoor
namespace Go.Proofs.YteopfpebdalcoaaGreatDoor
open Go.RowKit
def attV (ts : List Tok) (x : PR) : V := match x with
  | .ok e r => .tup [vex e, .d (dint ((ts.length - r.length : Nat) : Int)), .d (dint 0)]
  | .bad c r => .tup [vex (.mk 0 0 ⟨#[]⟩ []), .d (dint ((ts.length - r.length : Nat) : Int)), .d (dint c)]
  | .out => .junk
theorem attempt_none (σ : List (List V)) (i j k : Nat) : FunRec G 47 [.ptr i 0, .ptr j 0, .ptr k 0] σ none (fun σ' => σ' = σ) := by
  refine recover_code Tryz.func47 k47 rfl (fun v h => by cases h) fun hb => ?_
  delta c47 oM oV kI kS kT kF
  simp -dsimp -implicitDefEqProofs only [aw, slots0, V.copy, V.cells, V.boxable, over, Nat.reduceLeDiff, eq_self, reduceIte, reduceCtorEq, Nat.reduceBEq, Nat.reduceLT, Nat.reduceEqDiff, Nat.reduceAdd, r_seq, r_reg, Option.getD_none]
  exact ⟨σ.length, Nat.le_refl _, by rw [List.take_left]; exact hb, List.take_left⟩
theorem take4 (τ : List (List V)) (a b c d e : List V) : (τ ++ [a, b, c, d, e]).take (τ.length + 4) = τ ++ [a, b, c, d] := by
  rw [List.take_append, List.take_of_length_le (by omega), Nat.add_sub_cancel_left]; rfl
theorem attempt_some (τ : List (List V)) (c : Int) (n : Nat) (y0 y1 y2 y3 x2 x3 : V) (l : List V) : FunRec G 47 [.ptr τ.length 0, .ptr (τ.length + 1) 0, .ptr (τ.length + 2) 0] (τ ++ [[y0, y1, y2, y3], [x2], [x3], l]) (some (faultV c n))
    (fun σ' => σ' = τ ++ [[.d (dint 0), .d (dint 0), .d (dstr ⟨#[]⟩), .nil], [.d (dint n)], [.d (dint c)], l]) := by
  refine recover_code Tryz.func47 k47 rfl (fun v h => by cases h; rfl) fun hb => ?_
  delta c47 oM oV kI kS kT kF; unfold faultV
  simp -dsimp -implicitDefEqProofs only [aw, slots0, V.copy, V.cells, V.boxable, over, bldV, Nat.reduceLeDiff, eq_self, reduceIte, reduceCtorEq, Nat.reduceBEq, Nat.reduceLT, Nat.reduceEqDiff, Nat.reduceAdd, Nat.reduceSub, r_seq, r_reg, Option.getD_some]
  refine ⟨τ.length + 4, by simp, ?_, ?_⟩
  · rw [take4]
    simp only [List.length_append, List.length_cons, List.length_nil, Nat.reduceAdd] at hb
    unfold boxesBelow at hb ⊢
    rw [List.all_append, Bool.and_eq_true] at hb ⊢
    refine ⟨hb.1, ?_⟩
    have := hb.2
    simp only [List.all_cons, List.all_nil, Bool.and_true, Bool.and_eq_true] at this ⊢
    exact ⟨rfl, rfl, rfl, this.2.2.2⟩
  · rw [take4]
theorem attempt_fun (ts : List Tok) (H : TsOK ts) (a : Nat) (ha : a ≤ ts.length) (σ : List (List V)) : Fun G 21 [.d (.sl (ts.map tokD)), .d (dint a)] σ (RetV (attV ts (par .W (ts.drop a))) σ) := by
  refine defer_code Tryz.func21 k21 rfl fun hb hw => ?_
  delta c21 oM oV kI kS kT kF
  have hP := whole_par ts (σ.length + 3) H a ha
  simp -dsimp -implicitDefEqProofs only [aw, slots0, V.copy, V.lend, V.cells, V.boxable, over, bldV, Nat.reduceLeDiff, eq_self, reduceIte, reduceCtorEq, Nat.reduceBEq, Nat.reduceLT, Nat.reduceEqDiff, Nat.reduceAdd, d_seq, d_dfr]
  refine fun_mono (hP _ (by rw [box_at]; rfl)) fun o σ' hq => ?_
  cases hx : par .W (ts.drop a) with
  | out => exact absurd hx (par_ne _ _)
  | bad c r =>
    rw [hx] at hq
    obtain ⟨rfl, b, rfl⟩ := hq
    rw [set_at]
    simp -dsimp -implicitDefEqProofs only [aw, eq_self, reduceIte, reduceCtorEq, Nat.reduceBEq, Nat.reduceLT, Nat.reduceEqDiff, retK_pan]
    refine (attempt_some σ c (ts.length - r.length) _ _ _ _ _ _ _).mono fun σ' h => ?_
    subst h
    exact ⟨_, by simp [rs21, resV, resL, res1, aw, V.copy, V.lend, V.lend1, eq_self, reduceIte, Nat.reduceLT, Nat.reduceEqDiff, Nat.reduceAdd]; rfl, σ.length, Nat.le_refl _, by rw [List.take_left]; exact hb, rfl, by rw [List.take_left]; exact ⟨by simp [attV, vex_eq, mk_op, mk_num, mk_name, mk_args], rfl⟩⟩
  | ok e r =>
    rw [hx] at hq
    obtain ⟨rfl, rfl⟩ := hq
    rw [set_at]
    simp -dsimp -implicitDefEqProofs only [aw, V.copy, V.cells, V.boxable, over, Nat.reduceLeDiff, eq_self, reduceIte, reduceCtorEq, Nat.reduceBEq, Nat.reduceLT, Nat.reduceEqDiff, Nat.reduceAdd, Nat.reduceSub, retK_ret, vex_eq, pb]
    refine (attempt_none _ _ _ _).mono fun σ' h => ?_
    subst h
    exact ⟨.tup [vex e, .d (dint ((ts.length - r.length : Nat) : Int)), .d (dint 0)], by rw [vex_eq]; simp [rs21, resV, resL, res1, aw, V.copy, V.lend, V.lend1, eq_self, reduceIte, Nat.reduceLT, Nat.reduceEqDiff, Nat.reduceAdd], σ.length, Nat.le_refl _, by rw [List.take_left]; exact hb, by rw [vex_eq]; rfl, by rw [List.take_left]; exact ⟨rfl, rfl⟩⟩
end Go.Proofs.YteopfpebdalcoaaGreatDoor
