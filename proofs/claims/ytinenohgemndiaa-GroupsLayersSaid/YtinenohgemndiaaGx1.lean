/-
  Few, awake; GroupsReaches, GroupsLayers.
-/
import Derived.Test.YtinenohgemndiaaGw6
set_option linter.unusedVariables false
set_option linter.unusedSimpArgs false
set_option linter.unusedSectionVars false
namespace Go.Proofs.Ytinenohgemndiaa
open Go.RowKit
def fewB (n : Int) (l : Rw) : Bool := decide (n ≤ 14 ∨ n > 64) && decide (l.length ≤ 60)
theorem few_fun (n : Int) (l : Rw) (σ : List (List V)) : Fun G 9 [.d (dint n), .d (drel l)] σ (RetV (vbool (fewB n l)) σ) := by
  refine fun_code Try.func9 k9 rfl fun hb hw => ?_
  unfold c9 drel fewB
  have e : decide (((l.length : Nat) : Int) ≤ 60) = decide (l.length ≤ 60) := by rw [Bool.eq_iff_iff]; simp; omega
  by_cases h1 : n ≤ 14
  · have h2 : decide (n ≤ 14 ∨ n > 64) = true := decide_eq_true (.inl h1)
    rw [h2]
    simp -dsimp -implicitDefEqProofs only [aw, slots0, V.copy, V.lend, V.lend1, V.cells, V.boxable, over, bldV, boundV, rowsOf, plains, V.plain, Nat.reduceLeDiff, cond_true, cond_false, implies_true, eq_self, ne_eq, reduceIte, reduceCtorEq, Nat.reduceBEq, Nat.reduceLT, Nat.reduceEqDiff, Nat.reduceAdd, Nat.reduceSub, Nat.reduceMul, h1, decide_true, List.length_map, e]
    first | exact fin_ret hb rfl rfl List.take_length ⟨rfl, rfl⟩ | exact fin_ret hb rfl rfl List.take_left ⟨rfl, rfl⟩ | (trace_state; fail "fin")
  · by_cases h3 : n > 64
    · have h2 : decide (n ≤ 14 ∨ n > 64) = true := decide_eq_true (.inr h3)
      rw [h2]
      simp -dsimp -implicitDefEqProofs only [aw, slots0, V.copy, V.lend, V.lend1, V.cells, V.boxable, over, bldV, boundV, rowsOf, plains, V.plain, Nat.reduceLeDiff, cond_true, cond_false, implies_true, eq_self, ne_eq, reduceIte, reduceCtorEq, Nat.reduceBEq, Nat.reduceLT, Nat.reduceEqDiff, Nat.reduceAdd, Nat.reduceSub, Nat.reduceMul, h1, h3, decide_true, decide_false, List.length_map, e]
      first | exact fin_ret hb rfl rfl List.take_length ⟨rfl, rfl⟩ | exact fin_ret hb rfl rfl List.take_left ⟨rfl, rfl⟩ | (trace_state; fail "fin")
    · have h2 : decide (n ≤ 14 ∨ n > 64) = false := decide_eq_false (fun h => h.elim h1 h3)
      rw [h2]
      simp -dsimp -implicitDefEqProofs only [aw, slots0, V.copy, V.lend, V.lend1, V.cells, V.boxable, over, bldV, boundV, rowsOf, plains, V.plain, Nat.reduceLeDiff, cond_true, cond_false, implies_true, eq_self, ne_eq, reduceIte, reduceCtorEq, Nat.reduceBEq, Nat.reduceLT, Nat.reduceEqDiff, Nat.reduceAdd, Nat.reduceSub, Nat.reduceMul, h1, h3, decide_true, decide_false, List.length_map, e]
      first | exact fin_ret hb rfl rfl List.take_length ⟨rfl, rfl⟩ | exact fin_ret hb rfl rfl List.take_left ⟨rfl, rfl⟩ | (trace_state; fail "fin")
def aw1 : Prs := [(0, 2), (2, 3), (0, 3)]
def aw2 : Prs := [(1, 2), (2, 1), (2, 3), (3, 1)]
theorem aw1_lt : ∀ a b, RL aw1 a b → a < 4 ∧ b < 4 := fun a b h => by simp [RL, aw1] at h; omega
theorem aw2_lt : ∀ a b, RL aw2 a b → a < 4 ∧ b < 4 := fun a b h => by simp [RL, aw2] at h; omega
theorem aw1_lev : levP 4 aw1 = .tup [.d (dlls [[0, 1], [2], [3]]), .d (dint 0)] := by kernel_rfl
theorem aw1_red : redE 4 aw1 = .tup [.d (dprs [(0, 2), (2, 3)]), .d (dint 0)] := by kernel_rfl
theorem aw2_cyc : cycR 4 aw2 = [1, 2] := by kernel_rfl
theorem awake_fun (σ : List (List V)) : Fun G 10 [] σ (RetV (vbool true) σ) := by
  refine fun_code Try.func10 k10 rfl fun hb hw => ?_
  unfold c10
  have e1 := lev_fun 4 aw1 (by omega) aw1_lt (by decide) (by kernel_rfl)
  have e2 := redu_fun 4 aw1 (by omega) aw1_lt (by decide) (by kernel_rfl)
  have e3 := cycle_fun 4 aw2 (by omega) aw2_lt (by decide) (by kernel_rfl)
  rw [aw1_lev] at e1
  rw [aw1_red] at e2
  rw [aw2_cyc] at e3
  simp -dsimp -implicitDefEqProofs only [aw, slots0, V.copy, V.lend, V.lend1, V.cells, V.boxable, over, bldV, boundV, rowsOf, plains, V.plain, Nat.reduceLeDiff, cond_true, cond_false, implies_true, eq_self, ne_eq, reduceIte, reduceCtorEq, Nat.reduceBEq, Nat.reduceLT, Nat.reduceEqDiff, Nat.reduceAdd, Nat.reduceSub, Nat.reduceMul]
  refine fun_ret (e1 _) ?_
  simp -dsimp -implicitDefEqProofs only [aw, slots0, V.copy, V.lend, V.lend1, V.cells, V.boxable, over, bldV, boundV, rowsOf, plains, V.plain, Nat.reduceLeDiff, cond_true, cond_false, implies_true, eq_self, ne_eq, reduceIte, reduceCtorEq, Nat.reduceBEq, Nat.reduceLT, Nat.reduceEqDiff, Nat.reduceAdd, Nat.reduceSub, Nat.reduceMul]
  refine fun_ret (e2 _) ?_
  simp -dsimp -implicitDefEqProofs only [aw, slots0, V.copy, V.lend, V.lend1, V.cells, V.boxable, over, bldV, boundV, rowsOf, plains, V.plain, Nat.reduceLeDiff, cond_true, cond_false, implies_true, eq_self, ne_eq, reduceIte, reduceCtorEq, Nat.reduceBEq, Nat.reduceLT, Nat.reduceEqDiff, Nat.reduceAdd, Nat.reduceSub, Nat.reduceMul]
  refine fun_ret (e3 _) ?_
  have d1 : dlls [[0, 1], [2], [3]] = .sl [[dints [0, 1]], [dints [2]], [dints [3]]] := rfl
  have d2 : dprs [(0, 2), (2, 3)] = .sl [[dint 0, dint 2], [dint 2, dint 3]] := rfl
  have i0 : iaV 1 (V.d (.sl [[dints [0, 1]], [dints [2]], [dints [3]]])) (V.d (D.lit (Value.int IntKind.i64 0))) = some (.row [dints [0, 1]] 0) := rfl
  have n3 : ((3 : Nat) : Int) = 3 := rfl
  have n2 : ((2 : Nat) : Int) = 2 := rfl
  rw [d1, d2]
  simp -dsimp -implicitDefEqProofs only [aw, slots0, V.copy, V.lend, V.lend1, V.cells, V.boxable, over, bldV, boundV, rowsOf, plains, V.plain, Nat.reduceLeDiff, cond_true, cond_false, implies_true, eq_self, ne_eq, reduceIte, reduceCtorEq, Nat.reduceBEq, Nat.reduceLT, Nat.reduceEqDiff, Nat.reduceAdd, Nat.reduceSub, Nat.reduceMul, decide_true, i0, n3]
  refine fun_ret (ints_fun [0, 1] [0, 1] (by decide) (by decide) _) ?_
  simp -dsimp -implicitDefEqProofs only [aw, slots0, V.copy, V.lend, V.lend1, V.cells, V.boxable, over, bldV, boundV, rowsOf, plains, V.plain, Nat.reduceLeDiff, cond_true, cond_false, implies_true, eq_self, ne_eq, reduceIte, reduceCtorEq, Nat.reduceBEq, Nat.reduceLT, Nat.reduceEqDiff, Nat.reduceAdd, Nat.reduceSub, Nat.reduceMul, decide_true, n2]
  refine fun_ret (ints_fun [1, 2] [1, 2] (by decide) (by decide) _) ?_
  simp -dsimp -implicitDefEqProofs only [aw, slots0, V.copy, V.lend, V.lend1, V.cells, V.boxable, over, bldV, boundV, rowsOf, plains, V.plain, Nat.reduceLeDiff, cond_true, cond_false, implies_true, eq_self, ne_eq, reduceIte, reduceCtorEq, Nat.reduceBEq, Nat.reduceLT, Nat.reduceEqDiff, Nat.reduceAdd, Nat.reduceSub, Nat.reduceMul, decide_true]
  first | exact fin_ret hb rfl rfl List.take_length ⟨rfl, rfl⟩ | exact fin_ret hb rfl rfl List.take_left ⟨rfl, rfl⟩ | (trace_state; fail "fin")
theorem clo_le {n : Nat} {p : Prs} (hn : n ≤ 64) (hl : ∀ a b, RL p a b → a < n ∧ b < n) : (clo n p).length ≤ 1000000 ∧ ∀ r ∈ clo n p, r.length ≤ 1000000 := by
  have ht := (clo_get hl).1
  exact ⟨by rw [ht.len]; omega, fun r hr => by rw [ht.row r hr]; omega⟩
theorem reachT_le (n : Int) (l : Rw) : (reachT n l).length ≤ 1000000 ∧ ∀ r ∈ reachT n l, r.length ≤ 1000000 := by
  cases hv : validR n l
  · rw [reach_no hv]; exact ⟨by simp, fun r hr => by cases hr⟩
  · obtain ⟨m, p, rfl, hm, -, -, rfl, hp⟩ := valid_prs hv
    rw [reach_yes hv]
    exact clo_le hm hp
theorem few_len {n : Int} {l : Rw} (h : fewB n l = true) : l.length ≤ 60 := by
  unfold fewB at h
  simp only [Bool.and_eq_true, decide_eq_true_eq] at h
  exact h.2
theorem reaches_law (n : Int) (l : Rw) (σ : List (List V)) : Fun G 6 [.d (dint n), .d (drel l)] σ (RetV (vbool true) σ) := by
  refine fun_code Try.func6 k6 rfl fun hb hw => ?_
  unfold c6
  simp -dsimp -implicitDefEqProofs only [aw, slots0, V.copy, V.lend, V.lend1, V.cells, V.boxable, over, bldV, boundV, rowsOf, plains, V.plain, Nat.reduceLeDiff, cond_true, cond_false, implies_true, eq_self, ne_eq, reduceIte, reduceCtorEq, Nat.reduceBEq, Nat.reduceLT, Nat.reduceEqDiff, Nat.reduceAdd, Nat.reduceSub, Nat.reduceMul]
  refine fun_ret (few_fun n l _) ?_
  cases hf : fewB n l
  · simp -dsimp -implicitDefEqProofs only [aw, slots0, V.copy, V.lend, V.lend1, V.cells, V.boxable, over, bldV, boundV, rowsOf, plains, V.plain, Nat.reduceLeDiff, cond_true, cond_false, implies_true, eq_self, ne_eq, reduceIte, reduceCtorEq, Nat.reduceBEq, Nat.reduceLT, Nat.reduceEqDiff, Nat.reduceAdd, Nat.reduceSub, Nat.reduceMul]
    refine fun_ret (awake_fun _) ?_
    simp -dsimp -implicitDefEqProofs only [aw, slots0, V.copy, V.lend, V.lend1, V.cells, V.boxable, over, bldV, boundV, rowsOf, plains, V.plain, Nat.reduceLeDiff, cond_true, cond_false, implies_true, eq_self, ne_eq, reduceIte, reduceCtorEq, Nat.reduceBEq, Nat.reduceLT, Nat.reduceEqDiff, Nat.reduceAdd, Nat.reduceSub, Nat.reduceMul]
    first | exact fin_ret hb rfl rfl List.take_length ⟨rfl, rfl⟩ | exact fin_ret hb rfl rfl List.take_left ⟨rfl, rfl⟩ | (trace_state; fail "fin")
  have hlen := few_len hf
  simp -dsimp -implicitDefEqProofs only [aw, slots0, V.copy, V.lend, V.lend1, V.cells, V.boxable, over, bldV, boundV, rowsOf, plains, V.plain, Nat.reduceLeDiff, cond_true, cond_false, implies_true, eq_self, ne_eq, reduceIte, reduceCtorEq, Nat.reduceBEq, Nat.reduceLT, Nat.reduceEqDiff, Nat.reduceAdd, Nat.reduceSub, Nat.reduceMul]
  refine fun_ret (grvalid_fun n l (by omega) _) ?_
  simp -dsimp -implicitDefEqProofs only [aw, slots0, V.copy, V.lend, V.lend1, V.cells, V.boxable, over, bldV, boundV, rowsOf, plains, V.plain, Nat.reduceLeDiff, cond_true, cond_false, implies_true, eq_self, ne_eq, reduceIte, reduceCtorEq, Nat.reduceBEq, Nat.reduceLT, Nat.reduceEqDiff, Nat.reduceAdd, Nat.reduceSub, Nat.reduceMul]
  refine fun_ret (refvalid_fun n l (by omega) _) ?_
  obtain ⟨r1, r2⟩ := reachT_le n l
  have hbb : decide (validR n l = validR n l) = true := decide_eq_true rfl
  simp -dsimp -implicitDefEqProofs only [aw, slots0, V.copy, V.lend, V.lend1, V.cells, V.boxable, over, bldV, boundV, rowsOf, plains, V.plain, Nat.reduceLeDiff, cond_true, cond_false, implies_true, eq_self, ne_eq, reduceIte, reduceCtorEq, Nat.reduceBEq, Nat.reduceLT, Nat.reduceEqDiff, Nat.reduceAdd, Nat.reduceSub, Nat.reduceMul, beq_self_eq_true, hbb]
  refine fun_ret (grreach_fun n l (by omega) _) ?_
  simp -dsimp -implicitDefEqProofs only [aw, slots0, V.copy, V.lend, V.lend1, V.cells, V.boxable, over, bldV, boundV, rowsOf, plains, V.plain, Nat.reduceLeDiff, cond_true, cond_false, implies_true, eq_self, ne_eq, reduceIte, reduceCtorEq, Nat.reduceBEq, Nat.reduceLT, Nat.reduceEqDiff, Nat.reduceAdd, Nat.reduceSub, Nat.reduceMul]
  refine fun_ret (refReach_fun n l (by omega) _) ?_
  simp -dsimp -implicitDefEqProofs only [aw, slots0, V.copy, V.lend, V.lend1, V.cells, V.boxable, over, bldV, boundV, rowsOf, plains, V.plain, Nat.reduceLeDiff, cond_true, cond_false, implies_true, eq_self, ne_eq, reduceIte, reduceCtorEq, Nat.reduceBEq, Nat.reduceLT, Nat.reduceEqDiff, Nat.reduceAdd, Nat.reduceSub, Nat.reduceMul]
  refine fun_ret (tables_fun _ _ r1 r2 _) ?_
  simp -dsimp -implicitDefEqProofs only [aw, slots0, V.copy, V.lend, V.lend1, V.cells, V.boxable, over, bldV, boundV, rowsOf, plains, V.plain, Nat.reduceLeDiff, cond_true, cond_false, implies_true, eq_self, ne_eq, reduceIte, reduceCtorEq, Nat.reduceBEq, Nat.reduceLT, Nat.reduceEqDiff, Nat.reduceAdd, Nat.reduceSub, Nat.reduceMul, decide_true]
  refine fun_ret (awake_fun _) ?_
  simp -dsimp -implicitDefEqProofs only [aw, slots0, V.copy, V.lend, V.lend1, V.cells, V.boxable, over, bldV, boundV, rowsOf, plains, V.plain, Nat.reduceLeDiff, cond_true, cond_false, implies_true, eq_self, ne_eq, reduceIte, reduceCtorEq, Nat.reduceBEq, Nat.reduceLT, Nat.reduceEqDiff, Nat.reduceAdd, Nat.reduceSub, Nat.reduceMul]
  first | exact fin_ret hb rfl rfl List.take_length ⟨rfl, rfl⟩ | exact fin_ret hb rfl rfl List.take_left ⟨rfl, rfl⟩ | (trace_state; fail "fin")
end Go.Proofs.Ytinenohgemndiaa
