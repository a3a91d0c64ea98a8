/-
  Relations and tables in the plain world; whether a relation is valid.
-/
import Derived.Test.YtinenohgemndiaaK
import Derived.Test.YtinenohgemndiaaGr8
set_option linter.unusedVariables false
set_option linter.unusedSimpArgs false
set_option linter.unusedSectionVars false
namespace Go.Proofs.Ytinenohgemndiaa
open Go.RowKit
abbrev dint (n : Int) : D := .lit (.int .i64 n)
abbrev Rw := List (Int × Int)
def drel (l : Rw) : D := .sl (l.map fun p => [dint p.1, dint p.2])
def okP (n : Int) (p : Int × Int) : Bool := decide (0 ≤ p.1) && decide (p.1 < n) && (decide (0 ≤ p.2) && decide (p.2 < n))
def validR (n : Int) (l : Rw) : Bool := decide (0 ≤ n) && decide (n ≤ 64) && l.all (okP n)
theorem all_drop {α : Type} {l : List α} {p : α → Bool} {j : Nat} (h : j < l.length) : (l.drop j).all p = (p l[j] && (l.drop (j + 1)).all p) := by
  rw [List.drop_eq_getElem_cons h]; rfl
theorem rows_at {l : Rw} {j : Nat} (h : j < l.length) : (l.map fun p => [dint p.1, dint p.2])[j]? = some [dint l[j].1, dint l[j].2] := by simp [h]
theorem aa0 (i : Nat) : (if (0 : Int) ≤ 0 ∧ (0 : Int) < ((2 : Nat) : Int) then some (V.ptr i (Int.toNat 0 * 1)) else none) = some (V.ptr i 0) := rfl
theorem aa1 (i : Nat) : (if (0 : Int) ≤ 1 ∧ (1 : Int) < ((2 : Nat) : Int) then some (V.ptr i (Int.toNat 1 * 1)) else none) = some (V.ptr i 1) := rfl
set_option maxHeartbeats 1000000 in
theorem grvalid_fun (n : Int) (l : Rw) (hl : l.length ≤ 1000000) (σ : List (List V)) : Fun G 17 [.d (dint n), .d (drel l)] σ (RetV (.d (.lit (.bool (validR n l)))) σ) := by
  refine fun_code Try.func17 k17 rfl fun hb hw => ?_
  unfold c17
  unfold drel
  by_cases h0 : n < 0
  · simp -dsimp -implicitDefEqProofs only [aw, slots0, V.copy, V.lend, V.lend1, V.cells, V.boxable, over, bldV, boundV, rowsOf, plains, V.plain, Nat.reduceLeDiff, cond_true, cond_false, implies_true, eq_self, ne_eq, reduceIte, reduceCtorEq, Nat.reduceBEq, Nat.reduceLT, Nat.reduceEqDiff, Nat.reduceAdd, Nat.reduceSub, Nat.reduceMul, decide_eq_true h0]
    rw [show validR n l = false by unfold validR; rw [decide_eq_false (by omega)]; rfl]
    first | exact fin_ret hb rfl rfl List.take_length ⟨rfl, rfl⟩ | exact fin_ret hb rfl rfl List.take_left ⟨rfl, rfl⟩ | (trace_state; fail "fin")
  by_cases h64 : 64 < n
  · simp -dsimp -implicitDefEqProofs only [aw, slots0, V.copy, V.lend, V.lend1, V.cells, V.boxable, over, bldV, boundV, rowsOf, plains, V.plain, Nat.reduceLeDiff, cond_true, cond_false, implies_true, eq_self, ne_eq, reduceIte, reduceCtorEq, Nat.reduceBEq, Nat.reduceLT, Nat.reduceEqDiff, Nat.reduceAdd, Nat.reduceSub, Nat.reduceMul, decide_eq_false h0, decide_eq_true h64]
    rw [show validR n l = false by unfold validR; rw [decide_eq_false (p := n ≤ 64) (by omega), Bool.and_false]; rfl]
    first | exact fin_ret hb rfl rfl List.take_length ⟨rfl, rfl⟩ | exact fin_ret hb rfl rfl List.take_left ⟨rfl, rfl⟩ | (trace_state; fail "fin")
  have hv : validR n l = l.all (okP n) := by unfold validR; rw [decide_eq_true (by omega), decide_eq_true (by omega)]; rfl
  simp -dsimp -implicitDefEqProofs only [aw, slots0, V.copy, V.lend, V.lend1, V.cells, V.boxable, over, bldV, boundV, rowsOf, plains, V.plain, Nat.reduceLeDiff, cond_true, cond_false, implies_true, eq_self, ne_eq, reduceIte, reduceCtorEq, Nat.reduceBEq, Nat.reduceLT, Nat.reduceEqDiff, Nat.reduceAdd, Nat.reduceSub, Nat.reduceMul, decide_eq_false h0, decide_eq_false h64]
  refine awp_forK [0, 13, 14, 15] (fun (j : Nat) ρ σ' => ρ = [(0, .d (dint n)), (13, .d (drel l)), (14, vint .i64 l.length), (15, vint .i64 j)] ∧ σ' = σ ∧ l.all (okP n) = (l.drop j).all (okP n)) l.length ⟨rfl, rfl, rfl⟩ ?_ _
  rintro j ρ' σ' hj ⟨rfl, rfl, hr⟩
  unfold drel
  by_cases hlt : j < l.length
  · rw [all_drop hlt] at hr
    have hat := rows_at hlt
    generalize l[j] = p at hat hr
    obtain ⟨a, b⟩ := p
    have out : okP n (a, b) = false → validR n l = false := fun h => by rw [hv, hr, h]; rfl
    by_cases h1 : a < 0
    · simp -dsimp -implicitDefEqProofs only [aw, slots0, V.copy, V.lend, V.lend1, V.cells, V.boxable, over, bldV, boundV, rowsOf, plains, V.plain, Nat.reduceLeDiff, cond_true, cond_false, implies_true, eq_self, ne_eq, reduceIte, reduceCtorEq, Nat.reduceBEq, Nat.reduceLT, Nat.reduceEqDiff, Nat.reduceAdd, Nat.reduceSub, Nat.reduceMul, Int.ofNat_lt, hlt, decide_true, hat, iaK_some, aa0, aa1, decide_eq_true h1]
      rw [out (by unfold okP; rw [decide_eq_false (p := 0 ≤ a) (by omega)]; rfl)]
      first | exact fin_ret hb rfl rfl List.take_length ⟨rfl, rfl⟩ | exact fin_ret hb rfl rfl List.take_left ⟨rfl, rfl⟩ | (trace_state; fail "fin")
    by_cases h2 : n ≤ a
    · simp -dsimp -implicitDefEqProofs only [aw, slots0, V.copy, V.lend, V.lend1, V.cells, V.boxable, over, bldV, boundV, rowsOf, plains, V.plain, Nat.reduceLeDiff, cond_true, cond_false, implies_true, eq_self, ne_eq, reduceIte, reduceCtorEq, Nat.reduceBEq, Nat.reduceLT, Nat.reduceEqDiff, Nat.reduceAdd, Nat.reduceSub, Nat.reduceMul, Int.ofNat_lt, hlt, decide_true, hat, iaK_some, aa0, aa1, decide_eq_false h1, decide_eq_true h2]
      rw [out (by unfold okP; rw [decide_eq_false (p := a < n) (by omega), Bool.and_false]; rfl)]
      first | exact fin_ret hb rfl rfl List.take_length ⟨rfl, rfl⟩ | exact fin_ret hb rfl rfl List.take_left ⟨rfl, rfl⟩ | (trace_state; fail "fin")
    by_cases h3 : b < 0
    · simp -dsimp -implicitDefEqProofs only [aw, slots0, V.copy, V.lend, V.lend1, V.cells, V.boxable, over, bldV, boundV, rowsOf, plains, V.plain, Nat.reduceLeDiff, cond_true, cond_false, implies_true, eq_self, ne_eq, reduceIte, reduceCtorEq, Nat.reduceBEq, Nat.reduceLT, Nat.reduceEqDiff, Nat.reduceAdd, Nat.reduceSub, Nat.reduceMul, Int.ofNat_lt, hlt, decide_true, hat, iaK_some, aa0, aa1, decide_eq_false h1, decide_eq_false h2, decide_eq_true h3]
      rw [out (by unfold okP; rw [decide_eq_false (p := 0 ≤ b) (by omega), Bool.false_and, Bool.and_false])]
      first | exact fin_ret hb rfl rfl List.take_length ⟨rfl, rfl⟩ | exact fin_ret hb rfl rfl List.take_left ⟨rfl, rfl⟩ | (trace_state; fail "fin")
    by_cases h4 : n ≤ b
    · simp -dsimp -implicitDefEqProofs only [aw, slots0, V.copy, V.lend, V.lend1, V.cells, V.boxable, over, bldV, boundV, rowsOf, plains, V.plain, Nat.reduceLeDiff, cond_true, cond_false, implies_true, eq_self, ne_eq, reduceIte, reduceCtorEq, Nat.reduceBEq, Nat.reduceLT, Nat.reduceEqDiff, Nat.reduceAdd, Nat.reduceSub, Nat.reduceMul, Int.ofNat_lt, hlt, decide_true, hat, iaK_some, aa0, aa1, decide_eq_false h1, decide_eq_false h2, decide_eq_false h3, decide_eq_true h4]
      rw [out (by unfold okP; rw [decide_eq_false (p := b < n) (by omega), Bool.and_false, Bool.and_false])]
      first | exact fin_ret hb rfl rfl List.take_length ⟨rfl, rfl⟩ | exact fin_ret hb rfl rfl List.take_left ⟨rfl, rfl⟩ | (trace_state; fail "fin")
    · simp -dsimp -implicitDefEqProofs only [aw, slots0, V.copy, V.lend, V.lend1, V.cells, V.boxable, over, bldV, boundV, rowsOf, plains, V.plain, Nat.reduceLeDiff, cond_true, cond_false, implies_true, eq_self, ne_eq, reduceIte, reduceCtorEq, Nat.reduceBEq, Nat.reduceLT, Nat.reduceEqDiff, Nat.reduceAdd, Nat.reduceSub, Nat.reduceMul, Int.ofNat_lt, hlt, decide_true, hat, iaK_some, aa0, aa1, decide_eq_false h1, decide_eq_false h2, decide_eq_false h3, decide_eq_false h4, wrap_nat hlt (show l.length ≤ 9223372036854775807 by omega)]
      refine Nxt.drop (Nat.le_refl _) hb rfl ⟨rfl, rfl, ?_⟩
      rw [hr, show okP n (a, b) = true by unfold okP; rw [decide_eq_true (by omega), decide_eq_true (by omega), decide_eq_true (by omega), decide_eq_true (by omega)]; rfl, Bool.true_and]
  · simp -dsimp -implicitDefEqProofs only [aw, slots0, V.copy, V.lend, V.lend1, V.cells, V.boxable, over, bldV, boundV, rowsOf, plains, V.plain, Nat.reduceLeDiff, cond_true, cond_false, implies_true, eq_self, ne_eq, reduceIte, reduceCtorEq, Nat.reduceBEq, Nat.reduceLT, Nat.reduceEqDiff, Nat.reduceAdd, Nat.reduceSub, Nat.reduceMul, Int.ofNat_lt, hlt, decide_false]
    rw [List.drop_eq_nil_of_le (by omega)] at hr
    rw [hv, hr]
    first | exact fin_ret hb rfl rfl List.take_length ⟨rfl, rfl⟩ | exact fin_ret hb rfl rfl List.take_left ⟨rfl, rfl⟩ | (trace_state; fail "fin")
end Go.Proofs.Ytinenohgemndiaa
