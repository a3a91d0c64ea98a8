/-
  round, wrong, both Reduce.
-/
import Derived.Test.YtinenohgemndiaaGv4
set_option linter.unusedVariables false
set_option linter.unusedSimpArgs false
set_option linter.unusedSectionVars false
namespace Go.Proofs.Ytinenohgemndiaa
open Go.RowKit
def roundB (n : Nat) (t : List (List Bool)) : Bool := (List.range n).any fun i => tget t i i
theorem any_range_drop {n j : Nat} (h : j < n) (p : Nat → Bool) : ((List.range n).drop j).any p = (p j || ((List.range n).drop (j + 1)).any p) := by
  rw [List.drop_eq_getElem_cons (by simpa using h)]; simp
theorem round_fun (n : Nat) (l : Prs) (hn : n ≤ 64) (hl : ∀ a b, RL l a b → a < n ∧ b < n) (hll : l.length ≤ 1000000) (hv : validR n (l.map fun q => ((q.1 : Int), (q.2 : Int))) = true) (σ : List (List V)) : Fun G 41 [.d (dint n), .d (dprs l)] σ (RetV (vbool (roundB n (clo n l))) σ) := by
  refine fun_code Try.func41 k41 rfl fun hb hw => ?_
  unfold c41
  simp -dsimp -implicitDefEqProofs only [aw, slots0, V.copy, V.lend, V.lend1, V.cells, V.boxable, over, bldV, boundV, rowsOf, plains, V.plain, Nat.reduceLeDiff, cond_true, cond_false, implies_true, eq_self, ne_eq, reduceIte, reduceCtorEq, Nat.reduceBEq, Nat.reduceLT, Nat.reduceEqDiff, Nat.reduceAdd, Nat.reduceSub, Nat.reduceMul]
  refine fun_ret (refReach_fun n _ (by simpa using hll) _) ?_
  rw [reach_yes hv]
  have ht := (clo_get hl).1
  generalize clo n l = t at ht
  unfold dtab
  simp -dsimp -implicitDefEqProofs only [aw, slots0, V.copy, V.lend, V.lend1, V.cells, V.boxable, over, bldV, boundV, rowsOf, plains, V.plain, Nat.reduceLeDiff, cond_true, cond_false, implies_true, eq_self, ne_eq, reduceIte, reduceCtorEq, Nat.reduceBEq, Nat.reduceLT, Nat.reduceEqDiff, Nat.reduceAdd, Nat.reduceSub, Nat.reduceMul]
  refine awp_forK [5, 6] (fun (j : Nat) ρ σ' => ρ = [(5, .d (dtab t)), (6, vint .i64 j)] ∧ σ' = σ ∧ roundB n t = ((List.range n).drop j).any fun i => tget t i i) n ⟨rfl, rfl, rfl⟩ ?_ _
  rintro j ρ' σ' hj ⟨rfl, rfl, hr⟩
  unfold dtab
  by_cases hlt : j < n
  · rw [any_range_drop hlt] at hr
    have hlj : t[j]? = some (t[j]?.getD []) := by rw [List.getElem?_eq_getElem (by rw [ht.len]; exact hlt)]; rfl
    have g1 := dbs_at (ht.get hlt hlt)
    cases b1 : tget t j j
    · rw [b1] at g1 hr
      simp -dsimp -implicitDefEqProofs only [aw, slots0, V.copy, V.lend, V.lend1, V.cells, V.boxable, over, bldV, boundV, rowsOf, plains, V.plain, Nat.reduceLeDiff, cond_true, cond_false, implies_true, eq_self, ne_eq, reduceIte, reduceCtorEq, Nat.reduceBEq, Nat.reduceLT, Nat.reduceEqDiff, Nat.reduceAdd, Nat.reduceSub, Nat.reduceMul, ht.len, Int.ofNat_lt, hlt, decide_true, tab_at hlj, iaK_some, g1, wrap_nat hlt (show n ≤ 9223372036854775807 by omega)]
      exact Nxt.same (Nat.le_refl _) hb rfl ⟨rfl, rfl, by rw [hr, Bool.false_or]⟩
    · rw [b1] at g1 hr
      simp -dsimp -implicitDefEqProofs only [aw, slots0, V.copy, V.lend, V.lend1, V.cells, V.boxable, over, bldV, boundV, rowsOf, plains, V.plain, Nat.reduceLeDiff, cond_true, cond_false, implies_true, eq_self, ne_eq, reduceIte, reduceCtorEq, Nat.reduceBEq, Nat.reduceLT, Nat.reduceEqDiff, Nat.reduceAdd, Nat.reduceSub, Nat.reduceMul, ht.len, Int.ofNat_lt, hlt, decide_true, tab_at hlj, iaK_some, g1]
      rw [hr, Bool.true_or]
      first | exact fin_ret hb rfl rfl List.take_length ⟨rfl, rfl⟩ | exact fin_ret hb rfl rfl List.take_left ⟨rfl, rfl⟩ | (trace_state; fail "fin")
  · simp -dsimp -implicitDefEqProofs only [aw, slots0, V.copy, V.lend, V.lend1, V.cells, V.boxable, over, bldV, boundV, rowsOf, plains, V.plain, Nat.reduceLeDiff, cond_true, cond_false, implies_true, eq_self, ne_eq, reduceIte, reduceCtorEq, Nat.reduceBEq, Nat.reduceLT, Nat.reduceEqDiff, Nat.reduceAdd, Nat.reduceSub, Nat.reduceMul, ht.len, Int.ofNat_lt, hlt, decide_false]
    rw [List.drop_eq_nil_of_le (by simp; omega)] at hr
    rw [hr]
    first | exact fin_ret hb rfl rfl List.take_length ⟨rfl, rfl⟩ | exact fin_ret hb rfl rfl List.take_left ⟨rfl, rfl⟩ | (trace_state; fail "fin")
def wrongN (n : Nat) (l : Prs) : Int := if roundB n (clo n l) = true then 10 else 0
theorem wrong_no (n : Int) (l : Rw) (hl : l.length ≤ 1000000) (hv : validR n l = false) (σ : List (List V)) : Fun G 30 [.d (dint n), .d (drel l)] σ (RetV (.d (dint 1)) σ) := by
  refine fun_code Try.func30 k30 rfl fun hb hw => ?_
  unfold c30
  simp -dsimp -implicitDefEqProofs only [aw, slots0, V.copy, V.lend, V.lend1, V.cells, V.boxable, over, bldV, boundV, rowsOf, plains, V.plain, Nat.reduceLeDiff, cond_true, cond_false, implies_true, eq_self, ne_eq, reduceIte, reduceCtorEq, Nat.reduceBEq, Nat.reduceLT, Nat.reduceEqDiff, Nat.reduceAdd, Nat.reduceSub, Nat.reduceMul]
  refine fun_ret (refvalid_fun n l hl _) ?_
  simp -dsimp -implicitDefEqProofs only [aw, slots0, V.copy, V.lend, V.lend1, V.cells, V.boxable, over, bldV, boundV, rowsOf, plains, V.plain, Nat.reduceLeDiff, cond_true, cond_false, implies_true, eq_self, ne_eq, reduceIte, reduceCtorEq, Nat.reduceBEq, Nat.reduceLT, Nat.reduceEqDiff, Nat.reduceAdd, Nat.reduceSub, Nat.reduceMul, hv]
  first | exact fin_ret hb rfl rfl List.take_length ⟨rfl, rfl⟩ | exact fin_ret hb rfl rfl List.take_left ⟨rfl, rfl⟩ | (trace_state; fail "fin")
theorem wrong_fun (n : Nat) (l : Prs) (hn : n ≤ 64) (hl : ∀ a b, RL l a b → a < n ∧ b < n) (hll : l.length ≤ 1000000) (hv : validR n (l.map fun q => ((q.1 : Int), (q.2 : Int))) = true) (σ : List (List V)) : Fun G 30 [.d (dint n), .d (dprs l)] σ (RetV (.d (dint (wrongN n l))) σ) := by
  refine fun_code Try.func30 k30 rfl fun hb hw => ?_
  unfold c30
  simp -dsimp -implicitDefEqProofs only [aw, slots0, V.copy, V.lend, V.lend1, V.cells, V.boxable, over, bldV, boundV, rowsOf, plains, V.plain, Nat.reduceLeDiff, cond_true, cond_false, implies_true, eq_self, ne_eq, reduceIte, reduceCtorEq, Nat.reduceBEq, Nat.reduceLT, Nat.reduceEqDiff, Nat.reduceAdd, Nat.reduceSub, Nat.reduceMul]
  refine fun_ret (refvalid_fun n _ (by simpa using hll) _) ?_
  simp -dsimp -implicitDefEqProofs only [aw, slots0, V.copy, V.lend, V.lend1, V.cells, V.boxable, over, bldV, boundV, rowsOf, plains, V.plain, Nat.reduceLeDiff, cond_true, cond_false, implies_true, eq_self, ne_eq, reduceIte, reduceCtorEq, Nat.reduceBEq, Nat.reduceLT, Nat.reduceEqDiff, Nat.reduceAdd, Nat.reduceSub, Nat.reduceMul, hv]
  refine fun_ret (round_fun n l hn hl hll hv _) ?_
  cases h : roundB n (clo n l)
  · simp -dsimp -implicitDefEqProofs only [aw, slots0, V.copy, V.lend, V.lend1, V.cells, V.boxable, over, bldV, boundV, rowsOf, plains, V.plain, Nat.reduceLeDiff, cond_true, cond_false, implies_true, eq_self, ne_eq, reduceIte, reduceCtorEq, Nat.reduceBEq, Nat.reduceLT, Nat.reduceEqDiff, Nat.reduceAdd, Nat.reduceSub, Nat.reduceMul]
    rw [show wrongN n l = 0 by unfold wrongN; rw [h]; rfl]
    first | exact fin_ret hb rfl rfl List.take_length ⟨rfl, rfl⟩ | exact fin_ret hb rfl rfl List.take_left ⟨rfl, rfl⟩ | (trace_state; fail "fin")
  · simp -dsimp -implicitDefEqProofs only [aw, slots0, V.copy, V.lend, V.lend1, V.cells, V.boxable, over, bldV, boundV, rowsOf, plains, V.plain, Nat.reduceLeDiff, cond_true, cond_false, implies_true, eq_self, ne_eq, reduceIte, reduceCtorEq, Nat.reduceBEq, Nat.reduceLT, Nat.reduceEqDiff, Nat.reduceAdd, Nat.reduceSub, Nat.reduceMul]
    rw [show wrongN n l = 10 by unfold wrongN; rw [h]; rfl]
    first | exact fin_ret hb rfl rfl List.take_length ⟨rfl, rfl⟩ | exact fin_ret hb rfl rfl List.take_left ⟨rfl, rfl⟩ | (trace_state; fail "fin")
abbrev prow (l : Prs) : List (List D) := l.map fun p => [dint p.1, dint p.2]
def redr (n : Nat) (t : List (List Bool)) (a : Nat) (l : List Nat) : Prs := l.filterMap fun b => if tget t a b && !btw n t a b then some (a, b) else none
theorem redp_eq (n : Nat) (t : List (List Bool)) : redp n t = (List.range n).flatMap fun a => redr n t a (List.range n) := rfl
theorem redr_succ (n : Nat) (t : List (List Bool)) (a b : Nat) : redr n t a (List.range (b + 1)) = redr n t a (List.range b) ++ (if tget t a b && !btw n t a b then [(a, b)] else []) := by
  unfold redr
  rw [List.range_succ, List.filterMap_append]
  congr 1
  simp only [List.filterMap_cons, List.filterMap_nil]
  split <;> simp_all
theorem redr_len (n : Nat) (t : List (List Bool)) (a b : Nat) : (redr n t a (List.range b)).length ≤ b := by
  have := List.length_filterMap_le (fun b => if tget t a b && !btw n t a b then some (a, b) else none) (List.range b)
  simpa [redr] using this
def redE (n : Nat) (l : Prs) : V := if roundB n (clo n l) = true then .tup [.d (.sl []), .d (dint 10)] else .tup [.d (dprs (redp n (clo n l))), .d (dint 0)]
theorem redu_no (n : Int) (l : Rw) (hl : l.length ≤ 1000000) (hv : validR n l = false) (σ : List (List V)) : Fun G 21 [.d (dint n), .d (drel l)] σ (RetV (.tup [.d (.sl []), .d (dint 1)]) σ) := by
  refine fun_code Try.func21 k21 rfl fun hb hw => ?_
  unfold c21
  simp -dsimp -implicitDefEqProofs only [aw, slots0, V.copy, V.lend, V.lend1, V.cells, V.boxable, over, bldV, boundV, rowsOf, plains, V.plain, Nat.reduceLeDiff, cond_true, cond_false, implies_true, eq_self, ne_eq, reduceIte, reduceCtorEq, Nat.reduceBEq, Nat.reduceLT, Nat.reduceEqDiff, Nat.reduceAdd, Nat.reduceSub, Nat.reduceMul]
  refine fun_ret (grvalid_fun n l hl _) ?_
  simp -dsimp -implicitDefEqProofs only [aw, slots0, V.copy, V.lend, V.lend1, V.cells, V.boxable, over, bldV, boundV, rowsOf, plains, V.plain, Nat.reduceLeDiff, cond_true, cond_false, implies_true, eq_self, ne_eq, reduceIte, reduceCtorEq, Nat.reduceBEq, Nat.reduceLT, Nat.reduceEqDiff, Nat.reduceAdd, Nat.reduceSub, Nat.reduceMul, hv]
  exact fin_ret hb (v := .tup _) rfl rfl List.take_length ⟨rfl, rfl⟩
set_option maxHeartbeats 2000000 in
theorem redu_fun (n : Nat) (l : Prs) (hn : n ≤ 64) (hl : ∀ a b, RL l a b → a < n ∧ b < n) (hll : l.length ≤ 1000000) (hv : validR n (l.map fun q => ((q.1 : Int), (q.2 : Int))) = true) (σ : List (List V)) : Fun G 21 [.d (dint n), .d (dprs l)] σ (RetV (redE n l) σ) := by
  refine fun_code Try.func21 k21 rfl fun hb hw => ?_
  unfold c21
  simp -dsimp -implicitDefEqProofs only [aw, slots0, V.copy, V.lend, V.lend1, V.cells, V.boxable, over, bldV, boundV, rowsOf, plains, V.plain, Nat.reduceLeDiff, cond_true, cond_false, implies_true, eq_self, ne_eq, reduceIte, reduceCtorEq, Nat.reduceBEq, Nat.reduceLT, Nat.reduceEqDiff, Nat.reduceAdd, Nat.reduceSub, Nat.reduceMul]
  refine fun_ret (grvalid_fun n _ (by simpa using hll) _) ?_
  simp -dsimp -implicitDefEqProofs only [aw, slots0, V.copy, V.lend, V.lend1, V.cells, V.boxable, over, bldV, boundV, rowsOf, plains, V.plain, Nat.reduceLeDiff, cond_true, cond_false, implies_true, eq_self, ne_eq, reduceIte, reduceCtorEq, Nat.reduceBEq, Nat.reduceLT, Nat.reduceEqDiff, Nat.reduceAdd, Nat.reduceSub, Nat.reduceMul, hv]
  refine fun_ret (closure_fun n l hn hl hll _) ?_
  have ht := (clo_get hl).1
  unfold redE
  generalize clo n l = t at ht
  simp -dsimp -implicitDefEqProofs only [aw, slots0, V.copy, V.lend, V.lend1, V.cells, V.boxable, over, bldV, boundV, rowsOf, plains, V.plain, Nat.reduceLeDiff, cond_true, cond_false, implies_true, eq_self, ne_eq, reduceIte, reduceCtorEq, Nat.reduceBEq, Nat.reduceLT, Nat.reduceEqDiff, Nat.reduceAdd, Nat.reduceSub, Nat.reduceMul]
  refine awp_forK [0, 6, 18, 19] (fun (j : Nat) ρ σ' => ρ = [(0, .d (dint n)), (6, .d (dtab t)), (18, vint .i64 n), (19, vint .i64 j)] ∧ σ' = σ ∧ roundB n t = ((List.range n).drop j).any fun i => tget t i i) n ⟨rfl, rfl, rfl⟩ ?_ _
  rintro j ρ' σ' hj ⟨rfl, rfl, hr⟩
  by_cases hlt : j < n
  · rw [any_range_drop hlt] at hr
    have hlj : t[j]? = some (t[j]?.getD []) := by rw [List.getElem?_eq_getElem (by rw [ht.len]; exact hlt)]; rfl
    have g1 := dbs_at (ht.get hlt hlt)
    unfold dtab
    cases b1 : tget t j j
    · rw [b1] at g1 hr
      simp -dsimp -implicitDefEqProofs only [aw, slots0, V.copy, V.lend, V.lend1, V.cells, V.boxable, over, bldV, boundV, rowsOf, plains, V.plain, Nat.reduceLeDiff, cond_true, cond_false, implies_true, eq_self, ne_eq, reduceIte, reduceCtorEq, Nat.reduceBEq, Nat.reduceLT, Nat.reduceEqDiff, Nat.reduceAdd, Nat.reduceSub, Nat.reduceMul, Int.ofNat_lt, hlt, decide_true, tab_at hlj, iaK_some, g1, wrap_nat hlt (show n ≤ 9223372036854775807 by omega)]
      exact Nxt.same (Nat.le_refl _) hb rfl ⟨rfl, rfl, by rw [hr, Bool.false_or]⟩
    · rw [b1] at g1 hr
      simp -dsimp -implicitDefEqProofs only [aw, slots0, V.copy, V.lend, V.lend1, V.cells, V.boxable, over, bldV, boundV, rowsOf, plains, V.plain, Nat.reduceLeDiff, cond_true, cond_false, implies_true, eq_self, ne_eq, reduceIte, reduceCtorEq, Nat.reduceBEq, Nat.reduceLT, Nat.reduceEqDiff, Nat.reduceAdd, Nat.reduceSub, Nat.reduceMul, Int.ofNat_lt, hlt, decide_true, tab_at hlj, iaK_some, g1]
      rw [if_pos (by rw [hr, Bool.true_or])]
      exact fin_ret hb (v := .tup _) rfl rfl List.take_length ⟨rfl, rfl⟩
  · simp -dsimp -implicitDefEqProofs only [aw, slots0, V.copy, V.lend, V.lend1, V.cells, V.boxable, over, bldV, boundV, rowsOf, plains, V.plain, Nat.reduceLeDiff, cond_true, cond_false, implies_true, eq_self, ne_eq, reduceIte, reduceCtorEq, Nat.reduceBEq, Nat.reduceLT, Nat.reduceEqDiff, Nat.reduceAdd, Nat.reduceSub, Nat.reduceMul, Int.ofNat_lt, hlt, decide_false]
    rw [List.drop_eq_nil_of_le (by simp; omega)] at hr
    rw [if_neg (by rw [hr]; simp)]
    clear hr hlt hj
    refine awp_forK [0, 6, 8, 30, 31] (fun (a : Nat) ρ σ'' => ∃ cur : Prs, ρ = [(0, .d (dint n)), (6, .d (dtab t)), (8, .own 31 2 (prow cur)), (30, vint .i64 n), (31, vint .i64 a)] ∧ σ'' = σ' ∧ cur = ((List.range a).flatMap fun a => redr n t a (List.range n)) ∧ cur.length ≤ a * 64) n ⟨[], rfl, rfl, rfl, by simp⟩ ?_ _
    rintro a ρ' σ'' ha' ⟨cur, rfl, rfl, hc, hcl⟩
    by_cases ha : a < n
    · simp -dsimp -implicitDefEqProofs only [aw, slots0, V.copy, V.lend, V.lend1, V.cells, V.boxable, over, bldV, boundV, rowsOf, plains, V.plain, Nat.reduceLeDiff, cond_true, cond_false, implies_true, eq_self, ne_eq, reduceIte, reduceCtorEq, Nat.reduceBEq, Nat.reduceLT, Nat.reduceEqDiff, Nat.reduceAdd, Nat.reduceSub, Nat.reduceMul, Int.ofNat_lt, ha, decide_true]
      refine awp_forK [0, 6, 8, 9, 30, 31, 34, 35] (fun (b : Nat) ρ σ' => ρ = [(0, .d (dint n)), (6, .d (dtab t)), (8, .own 31 2 (prow (cur ++ redr n t a (List.range b)))), (9, vint .i64 a), (30, vint .i64 n), (31, vint .i64 a), (34, vint .i64 n), (35, vint .i64 b)] ∧ σ' = σ'') n ⟨by simp [redr, get, keepOnly], rfl⟩ ?_ _
      rintro b ρ' σ' hb' ⟨rfl, rfl⟩
      by_cases hbn : b < n
      · have hla : t[a]? = some (t[a]?.getD []) := by rw [List.getElem?_eq_getElem (by rw [ht.len]; exact ha)]; rfl
        have g1 := dbs_at (ht.get ha hbn)
        have hsu := redr_succ n t a b
        have hrl := redr_len n t a b
        have hle : a * 64 ≤ 64 * 64 := Nat.mul_le_mul_right _ (by omega)
        cases b1 : tget t a b
        · rw [b1] at g1
          rw [b1] at hsu
          simp only [Bool.false_and, Bool.false_eq_true, if_false, List.append_nil] at hsu
          unfold dtab
          simp -dsimp -implicitDefEqProofs only [aw, slots0, V.copy, V.lend, V.lend1, V.cells, V.boxable, over, bldV, boundV, rowsOf, plains, V.plain, Nat.reduceLeDiff, cond_true, cond_false, implies_true, eq_self, ne_eq, reduceIte, reduceCtorEq, Nat.reduceBEq, Nat.reduceLT, Nat.reduceEqDiff, Nat.reduceAdd, Nat.reduceSub, Nat.reduceMul, Int.ofNat_lt, hbn, decide_true, tab_at hla, iaK_some, g1, wrap_nat hbn (show n ≤ 9223372036854775807 by omega)]
          exact Nxt.same (Nat.le_refl _) hb rfl ⟨by rw [hsu], rfl⟩
        · rw [b1] at g1
          rw [b1] at hsu
          simp only [Bool.true_and] at hsu
          have hbt := between_fun n t ht hn a b ha hbn
          unfold dtab at hbt ⊢
          simp -dsimp -implicitDefEqProofs only [aw, slots0, V.copy, V.lend, V.lend1, V.cells, V.boxable, over, bldV, boundV, rowsOf, plains, V.plain, Nat.reduceLeDiff, cond_true, cond_false, implies_true, eq_self, ne_eq, reduceIte, reduceCtorEq, Nat.reduceBEq, Nat.reduceLT, Nat.reduceEqDiff, Nat.reduceAdd, Nat.reduceSub, Nat.reduceMul, Int.ofNat_lt, hbn, decide_true, tab_at hla, iaK_some, g1]
          refine fun_ret (hbt _) ?_
          cases b2 : btw n t a b
          · rw [b2] at hsu
            simp only [Bool.not_false, if_true] at hsu
            simp -dsimp -implicitDefEqProofs only [aw, slots0, V.copy, V.lend, V.lend1, V.cells, V.boxable, over, bldV, boundV, rowsOf, plains, V.plain, Nat.reduceLeDiff, cond_true, cond_false, implies_true, eq_self, ne_eq, reduceIte, reduceCtorEq, Nat.reduceBEq, Nat.reduceLT, Nat.reduceEqDiff, Nat.reduceAdd, Nat.reduceSub, Nat.reduceMul]
            refine onT_intro (by omega) ?_
            simp -dsimp -implicitDefEqProofs only [aw, slots0, V.copy, V.lend, V.lend1, V.cells, V.boxable, over, bldV, boundV, rowsOf, plains, V.plain, Nat.reduceLeDiff, cond_true, cond_false, implies_true, eq_self, ne_eq, reduceIte, reduceCtorEq, Nat.reduceBEq, Nat.reduceLT, Nat.reduceEqDiff, Nat.reduceAdd, Nat.reduceSub, Nat.reduceMul, wrap_nat hbn (show n ≤ 9223372036854775807 by omega)]
            exact ⟨hbn, Nxt.same (Nat.le_refl _) hb rfl ⟨by rw [hsu]; simp, rfl⟩⟩
          · rw [b2] at hsu
            simp only [Bool.not_true, Bool.false_eq_true, if_false, List.append_nil] at hsu
            simp -dsimp -implicitDefEqProofs only [aw, slots0, V.copy, V.lend, V.lend1, V.cells, V.boxable, over, bldV, boundV, rowsOf, plains, V.plain, Nat.reduceLeDiff, cond_true, cond_false, implies_true, eq_self, ne_eq, reduceIte, reduceCtorEq, Nat.reduceBEq, Nat.reduceLT, Nat.reduceEqDiff, Nat.reduceAdd, Nat.reduceSub, Nat.reduceMul, wrap_nat hbn (show n ≤ 9223372036854775807 by omega)]
            exact ⟨hbn, Nxt.same (Nat.le_refl _) hb rfl ⟨by rw [hsu], rfl⟩⟩
      · have e : n = b := by omega
        subst e
        simp -dsimp -implicitDefEqProofs only [aw, slots0, V.copy, V.lend, V.lend1, V.cells, V.boxable, over, bldV, boundV, rowsOf, plains, V.plain, Nat.reduceLeDiff, cond_true, cond_false, implies_true, eq_self, ne_eq, reduceIte, reduceCtorEq, Nat.reduceBEq, Nat.reduceLT, Nat.reduceEqDiff, Nat.reduceAdd, Nat.reduceSub, Nat.reduceMul, Int.ofNat_lt, Nat.lt_irrefl, decide_false, wrap_nat ha (show n ≤ 9223372036854775807 by omega)]
        have hrl := redr_len n t a n
        exact ⟨ha, Nxt.same (Nat.le_refl _) hb rfl ⟨_, rfl, rfl, by rw [hc, List.range_succ, List.flatMap_append]; simp, by rw [List.length_append, Nat.add_mul]; omega⟩⟩
    · have e : n = a := by omega
      subst e
      simp -dsimp -implicitDefEqProofs only [aw, slots0, V.copy, V.lend, V.lend1, V.cells, V.boxable, over, bldV, boundV, rowsOf, plains, V.plain, Nat.reduceLeDiff, cond_true, cond_false, implies_true, eq_self, ne_eq, reduceIte, reduceCtorEq, Nat.reduceBEq, Nat.reduceLT, Nat.reduceEqDiff, Nat.reduceAdd, Nat.reduceSub, Nat.reduceMul, Int.ofNat_lt, Nat.lt_irrefl, decide_false]
      rw [dprs_eq, redp_eq, ← hc]
      exact fin_ret hb (v := .tup _) rfl rfl List.take_length ⟨rfl, rfl⟩
theorem refredu_no (n : Int) (l : Rw) (hl : l.length ≤ 1000000) (hv : validR n l = false) (σ : List (List V)) : Fun G 22 [.d (dint n), .d (drel l)] σ (RetV (.tup [.d (.sl []), .d (dint 1)]) σ) := by
  refine fun_code Try.func22 k22 rfl fun hb hw => ?_
  unfold c22
  simp -dsimp -implicitDefEqProofs only [aw, slots0, V.copy, V.lend, V.lend1, V.cells, V.boxable, over, bldV, boundV, rowsOf, plains, V.plain, Nat.reduceLeDiff, cond_true, cond_false, implies_true, eq_self, ne_eq, reduceIte, reduceCtorEq, Nat.reduceBEq, Nat.reduceLT, Nat.reduceEqDiff, Nat.reduceAdd, Nat.reduceSub, Nat.reduceMul]
  refine fun_ret (wrong_no n l hl hv _) ?_
  simp -dsimp -implicitDefEqProofs only [aw, slots0, V.copy, V.lend, V.lend1, V.cells, V.boxable, over, bldV, boundV, rowsOf, plains, V.plain, Nat.reduceLeDiff, cond_true, cond_false, implies_true, eq_self, ne_eq, reduceIte, reduceCtorEq, Nat.reduceBEq, Nat.reduceLT, Nat.reduceEqDiff, Nat.reduceAdd, Nat.reduceSub, Nat.reduceMul, Int.reduceEq, decide_true, decide_false]
  exact fin_ret hb (v := .tup _) rfl rfl List.take_length ⟨rfl, rfl⟩
theorem btw_take {n : Nat} {t : List (List Bool)} {a b k : Nat} (h : k < n) : ((List.range n).take (k + 1)).any (fun i => tget t a i && tget t i b) = (((List.range n).take k).any (fun i => tget t a i && tget t i b) || (tget t a k && tget t k b)) := by
  rw [List.take_add_one, List.getElem?_eq_getElem (by simpa using h), List.any_append]; simp
set_option maxHeartbeats 2000000 in
theorem refredu_fun (n : Nat) (l : Prs) (hn : n ≤ 64) (hl : ∀ a b, RL l a b → a < n ∧ b < n) (hll : l.length ≤ 1000000) (hv : validR n (l.map fun q => ((q.1 : Int), (q.2 : Int))) = true) (σ : List (List V)) : Fun G 22 [.d (dint n), .d (dprs l)] σ (RetV (redE n l) σ) := by
  refine fun_code Try.func22 k22 rfl fun hb hw => ?_
  unfold c22
  simp -dsimp -implicitDefEqProofs only [aw, slots0, V.copy, V.lend, V.lend1, V.cells, V.boxable, over, bldV, boundV, rowsOf, plains, V.plain, Nat.reduceLeDiff, cond_true, cond_false, implies_true, eq_self, ne_eq, reduceIte, reduceCtorEq, Nat.reduceBEq, Nat.reduceLT, Nat.reduceEqDiff, Nat.reduceAdd, Nat.reduceSub, Nat.reduceMul]
  refine fun_ret (wrong_fun n l hn hl hll hv _) ?_
  unfold redE wrongN
  cases hro : roundB n (clo n l)
  case true =>
    simp only [if_true]
    simp -dsimp -implicitDefEqProofs only [aw, slots0, V.copy, V.lend, V.lend1, V.cells, V.boxable, over, bldV, boundV, rowsOf, plains, V.plain, Nat.reduceLeDiff, cond_true, cond_false, implies_true, eq_self, ne_eq, reduceIte, reduceCtorEq, Nat.reduceBEq, Nat.reduceLT, Nat.reduceEqDiff, Nat.reduceAdd, Nat.reduceSub, Nat.reduceMul, Int.reduceEq, decide_true, decide_false]
    exact fin_ret hb (v := .tup _) rfl rfl List.take_length ⟨rfl, rfl⟩
  simp only [Bool.false_eq_true, if_false]
  simp -dsimp -implicitDefEqProofs only [aw, slots0, V.copy, V.lend, V.lend1, V.cells, V.boxable, over, bldV, boundV, rowsOf, plains, V.plain, Nat.reduceLeDiff, cond_true, cond_false, implies_true, eq_self, ne_eq, reduceIte, reduceCtorEq, Nat.reduceBEq, Nat.reduceLT, Nat.reduceEqDiff, Nat.reduceAdd, Nat.reduceSub, Nat.reduceMul, Int.reduceEq, decide_true, decide_false]
  refine fun_ret (refReach_fun n _ (by simpa using hll) _) ?_
  rw [reach_yes hv]
  have ht := (clo_get hl).1
  generalize clo n l = t at ht
  simp -dsimp -implicitDefEqProofs only [aw, slots0, V.copy, V.lend, V.lend1, V.cells, V.boxable, over, bldV, boundV, rowsOf, plains, V.plain, Nat.reduceLeDiff, cond_true, cond_false, implies_true, eq_self, ne_eq, reduceIte, reduceCtorEq, Nat.reduceBEq, Nat.reduceLT, Nat.reduceEqDiff, Nat.reduceAdd, Nat.reduceSub, Nat.reduceMul]
  refine awp_forK [0, 7, 8, 9] (fun (a : Nat) ρ σ'' => ∃ cur : Prs, ρ = [(0, .d (dint n)), (7, .d (dtab t)), (8, .own 31 2 (prow cur)), (9, vint .i64 a)] ∧ σ'' = σ ∧ cur = ((List.range a).flatMap fun a => redr n t a (List.range n)) ∧ cur.length ≤ a * 64) n ⟨[], rfl, rfl, rfl, by simp⟩ ?_ _
  rintro a ρ' σ'' ha' ⟨cur, rfl, rfl, hc, hcl⟩
  by_cases ha : a < n
  · simp -dsimp -implicitDefEqProofs only [aw, slots0, V.copy, V.lend, V.lend1, V.cells, V.boxable, over, bldV, boundV, rowsOf, plains, V.plain, Nat.reduceLeDiff, cond_true, cond_false, implies_true, eq_self, ne_eq, reduceIte, reduceCtorEq, Nat.reduceBEq, Nat.reduceLT, Nat.reduceEqDiff, Nat.reduceAdd, Nat.reduceSub, Nat.reduceMul, Int.ofNat_lt, ha, decide_true]
    refine awp_forK [0, 7, 8, 9, 10] (fun (b : Nat) ρ σ' => ρ = [(0, .d (dint n)), (7, .d (dtab t)), (8, .own 31 2 (prow (cur ++ redr n t a (List.range b)))), (9, vint .i64 a), (10, vint .i64 b)] ∧ σ' = σ'') n ⟨by simp [redr, get, keepOnly], rfl⟩ ?_ _
    rintro b ρ' σ' hb' ⟨rfl, rfl⟩
    by_cases hbn : b < n
    · have hla : t[a]? = some (t[a]?.getD []) := by rw [List.getElem?_eq_getElem (by rw [ht.len]; exact ha)]; rfl
      have hsu := redr_succ n t a b
      have hrl := redr_len n t a b
      have hle : a * 64 ≤ 64 * 64 := Nat.mul_le_mul_right _ (by omega)
      simp -dsimp -implicitDefEqProofs only [aw, slots0, V.copy, V.lend, V.lend1, V.cells, V.boxable, over, bldV, boundV, rowsOf, plains, V.plain, Nat.reduceLeDiff, cond_true, cond_false, implies_true, eq_self, ne_eq, reduceIte, reduceCtorEq, Nat.reduceBEq, Nat.reduceLT, Nat.reduceEqDiff, Nat.reduceAdd, Nat.reduceSub, Nat.reduceMul, Int.ofNat_lt, hbn, decide_true]
      refine awp_forK [0, 7, 8, 9, 10, 11, 12] (fun (k : Nat) ρ σ'' => ρ = [(0, .d (dint n)), (7, .d (dtab t)), (8, .own 31 2 (prow (cur ++ redr n t a (List.range b)))), (9, vint .i64 a), (10, vint .i64 b), (11, vbool (((List.range n).take k).any fun i => tget t a i && tget t i b)), (12, vint .i64 k)] ∧ σ'' = σ') n ⟨rfl, rfl⟩ ?_ _
      rintro k ρ' σ'' hk' ⟨rfl, rfl⟩
      by_cases hk : k < n
      · have hlk : t[k]? = some (t[k]?.getD []) := by rw [List.getElem?_eq_getElem (by rw [ht.len]; exact hk)]; rfl
        have hbt := btw_take (t := t) (a := a) (b := b) hk
        generalize ((List.range n).take k).any (fun i => tget t a i && tget t i b) = w at hbt
        have g1 := dbs_at (ht.get ha hk)
        have g2 := dbs_at (ht.get hk hbn)
        unfold dtab
        cases w
        · cases b1 : tget t a k
          · rw [b1] at g1 hbt
            simp -dsimp -implicitDefEqProofs only [aw, slots0, V.copy, V.lend, V.lend1, V.cells, V.boxable, over, bldV, boundV, rowsOf, plains, V.plain, Nat.reduceLeDiff, cond_true, cond_false, implies_true, eq_self, ne_eq, reduceIte, reduceCtorEq, Nat.reduceBEq, Nat.reduceLT, Nat.reduceEqDiff, Nat.reduceAdd, Nat.reduceSub, Nat.reduceMul, Int.ofNat_lt, hk, decide_true, tab_at hla, tab_at hlk, iaK_some, g1, g2, wrap_nat hk (show n ≤ 9223372036854775807 by omega)]
            exact Nxt.same (Nat.le_refl _) hb rfl ⟨by rw [hbt]; rfl, rfl⟩
          · rw [b1] at g1 hbt
            cases b2 : tget t k b
            · rw [b2] at g2 hbt
              simp -dsimp -implicitDefEqProofs only [aw, slots0, V.copy, V.lend, V.lend1, V.cells, V.boxable, over, bldV, boundV, rowsOf, plains, V.plain, Nat.reduceLeDiff, cond_true, cond_false, implies_true, eq_self, ne_eq, reduceIte, reduceCtorEq, Nat.reduceBEq, Nat.reduceLT, Nat.reduceEqDiff, Nat.reduceAdd, Nat.reduceSub, Nat.reduceMul, Int.ofNat_lt, hk, decide_true, tab_at hla, tab_at hlk, iaK_some, g1, g2, wrap_nat hk (show n ≤ 9223372036854775807 by omega)]
              exact Nxt.same (Nat.le_refl _) hb rfl ⟨by rw [hbt]; rfl, rfl⟩
            · rw [b2] at g2 hbt
              simp -dsimp -implicitDefEqProofs only [aw, slots0, V.copy, V.lend, V.lend1, V.cells, V.boxable, over, bldV, boundV, rowsOf, plains, V.plain, Nat.reduceLeDiff, cond_true, cond_false, implies_true, eq_self, ne_eq, reduceIte, reduceCtorEq, Nat.reduceBEq, Nat.reduceLT, Nat.reduceEqDiff, Nat.reduceAdd, Nat.reduceSub, Nat.reduceMul, Int.ofNat_lt, hk, decide_true, tab_at hla, tab_at hlk, iaK_some, g1, g2, wrap_nat hk (show n ≤ 9223372036854775807 by omega)]
              exact Nxt.same (Nat.le_refl _) hb rfl ⟨by rw [hbt]; rfl, rfl⟩
        · simp -dsimp -implicitDefEqProofs only [aw, slots0, V.copy, V.lend, V.lend1, V.cells, V.boxable, over, bldV, boundV, rowsOf, plains, V.plain, Nat.reduceLeDiff, cond_true, cond_false, implies_true, eq_self, ne_eq, reduceIte, reduceCtorEq, Nat.reduceBEq, Nat.reduceLT, Nat.reduceEqDiff, Nat.reduceAdd, Nat.reduceSub, Nat.reduceMul, Int.ofNat_lt, hk, decide_true, tab_at hla, tab_at hlk, iaK_some, g1, g2, wrap_nat hk (show n ≤ 9223372036854775807 by omega)]
          exact Nxt.same (Nat.le_refl _) hb rfl ⟨by rw [hbt, Bool.true_or], rfl⟩
      · have e : n = k := by omega
        subst e
        have hbw : ((List.range n).take n).any (fun i => tget t a i && tget t i b) = btw n t a b := by
          unfold btw; rw [List.take_of_length_le (by simp)]
        rw [hbw]
        have g1 := dbs_at (ht.get ha hbn)
        unfold dtab
        cases b1 : tget t a b
        · rw [b1] at g1 hsu
          simp only [Bool.false_and, Bool.false_eq_true, if_false, List.append_nil] at hsu
          simp -dsimp -implicitDefEqProofs only [aw, slots0, V.copy, V.lend, V.lend1, V.cells, V.boxable, over, bldV, boundV, rowsOf, plains, V.plain, Nat.reduceLeDiff, cond_true, cond_false, implies_true, eq_self, ne_eq, reduceIte, reduceCtorEq, Nat.reduceBEq, Nat.reduceLT, Nat.reduceEqDiff, Nat.reduceAdd, Nat.reduceSub, Nat.reduceMul, Int.ofNat_lt, Nat.lt_irrefl, decide_false, tab_at hla, iaK_some, g1, wrap_nat hbn (show n ≤ 9223372036854775807 by omega)]
          exact ⟨hbn, Nxt.same (Nat.le_refl _) hb rfl ⟨by first | (rw [hsu]; done) | (rw [hsu]; rfl), rfl⟩⟩
        · rw [b1] at g1 hsu
          simp only [Bool.true_and] at hsu
          cases b2 : btw n t a b
          · rw [b2] at hsu
            simp only [Bool.not_false, if_true] at hsu
            simp -dsimp -implicitDefEqProofs only [aw, slots0, V.copy, V.lend, V.lend1, V.cells, V.boxable, over, bldV, boundV, rowsOf, plains, V.plain, Nat.reduceLeDiff, cond_true, cond_false, implies_true, eq_self, ne_eq, reduceIte, reduceCtorEq, Nat.reduceBEq, Nat.reduceLT, Nat.reduceEqDiff, Nat.reduceAdd, Nat.reduceSub, Nat.reduceMul, Int.ofNat_lt, Nat.lt_irrefl, decide_false, tab_at hla, iaK_some, g1]
            refine onT_intro (by omega) ?_
            simp -dsimp -implicitDefEqProofs only [aw, slots0, V.copy, V.lend, V.lend1, V.cells, V.boxable, over, bldV, boundV, rowsOf, plains, V.plain, Nat.reduceLeDiff, cond_true, cond_false, implies_true, eq_self, ne_eq, reduceIte, reduceCtorEq, Nat.reduceBEq, Nat.reduceLT, Nat.reduceEqDiff, Nat.reduceAdd, Nat.reduceSub, Nat.reduceMul, wrap_nat hbn (show n ≤ 9223372036854775807 by omega)]
            exact ⟨hbn, Nxt.same (Nat.le_refl _) hb rfl ⟨by rw [hsu]; simp [dtab], rfl⟩⟩
          · rw [b2] at hsu
            simp only [Bool.not_true, Bool.false_eq_true, if_false, List.append_nil] at hsu
            simp -dsimp -implicitDefEqProofs only [aw, slots0, V.copy, V.lend, V.lend1, V.cells, V.boxable, over, bldV, boundV, rowsOf, plains, V.plain, Nat.reduceLeDiff, cond_true, cond_false, implies_true, eq_self, ne_eq, reduceIte, reduceCtorEq, Nat.reduceBEq, Nat.reduceLT, Nat.reduceEqDiff, Nat.reduceAdd, Nat.reduceSub, Nat.reduceMul, Int.ofNat_lt, Nat.lt_irrefl, decide_false, tab_at hla, iaK_some, g1, wrap_nat hbn (show n ≤ 9223372036854775807 by omega)]
            exact ⟨hbn, Nxt.same (Nat.le_refl _) hb rfl ⟨by first | (rw [hsu]; done) | (rw [hsu]; rfl), rfl⟩⟩
    · have e : n = b := by omega
      subst e
      simp -dsimp -implicitDefEqProofs only [aw, slots0, V.copy, V.lend, V.lend1, V.cells, V.boxable, over, bldV, boundV, rowsOf, plains, V.plain, Nat.reduceLeDiff, cond_true, cond_false, implies_true, eq_self, ne_eq, reduceIte, reduceCtorEq, Nat.reduceBEq, Nat.reduceLT, Nat.reduceEqDiff, Nat.reduceAdd, Nat.reduceSub, Nat.reduceMul, Int.ofNat_lt, Nat.lt_irrefl, decide_false, wrap_nat ha (show n ≤ 9223372036854775807 by omega)]
      have hrl := redr_len n t a n
      exact ⟨ha, Nxt.same (Nat.le_refl _) hb rfl ⟨_, rfl, rfl, by rw [hc, List.range_succ, List.flatMap_append]; simp, by rw [List.length_append, Nat.add_mul]; omega⟩⟩
  · have e : n = a := by omega
    subst e
    simp -dsimp -implicitDefEqProofs only [aw, slots0, V.copy, V.lend, V.lend1, V.cells, V.boxable, over, bldV, boundV, rowsOf, plains, V.plain, Nat.reduceLeDiff, cond_true, cond_false, implies_true, eq_self, ne_eq, reduceIte, reduceCtorEq, Nat.reduceBEq, Nat.reduceLT, Nat.reduceEqDiff, Nat.reduceAdd, Nat.reduceSub, Nat.reduceMul, Int.ofNat_lt, Nat.lt_irrefl, decide_false]
    rw [dprs_eq, redp_eq, ← hc]
    exact fin_ret hb (v := .tup _) rfl rfl List.take_length ⟨rfl, rfl⟩
end Go.Proofs.Ytinenohgemndiaa
