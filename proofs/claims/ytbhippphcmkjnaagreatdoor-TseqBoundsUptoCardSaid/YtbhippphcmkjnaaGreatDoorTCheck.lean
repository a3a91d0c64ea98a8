/-
  tseq.check, Valid.
-/
import Derived.Test.YtbhippphcmkjnaaGreatDoorTNode
set_option linter.unusedVariables false
set_option linter.unusedSimpArgs false
namespace Go.Proofs.YtbhippphcmkjnaaGreatDoor
open Go.RowKit

mutual
/-- The first error of the nodes in preorder. -/
def checkT : Ts → Bool → Int
  | .mk o a b e s l, below => if nodeT (.mk o a b e s l) below = 0 then checkTs l (below || decide (o = 5)) else nodeT (.mk o a b e s l) below
def checkTs : List Ts → Bool → Int
  | [], _ => 0
  | a :: r, b => if checkT a b = 0 then checkTs r b else checkT a b
end
theorem checkT_eq (s : Ts) (below : Bool) : checkT s below = if nodeT s below = 0 then checkTs s.args (below || decide (s.op = 5)) else nodeT s below := by cases s; rfl
theorem check_fun (s : Ts) : ∀ (below : Bool), tbig s ≤ 1000000 → ∀ σ, Fun G 24 [vts s, .d (.lit (.bool below))] σ (RetV (.d (dint (checkT s below))) σ) := by
  induction s using Ts.ind with
  | h s ih =>
  intro below hs σ
  have hln := tbig_len s
  have hq := checkT_eq s below
  refine fun_code Tryz.func24 k24 (by simp only [vts_eq]; rfl) fun hb hw => ?_
  unfold c24
  have out : ∀ (n : Int) (l : List (List V)), checkT s below = n → fin σ.length rs24 (RetV (.d (dint (checkT s below))) σ) .ret [(4, .d (.lit (.int .i64 n)))] (σ ++ l) := fun n l h => by
    rw [h]; exact fin_ret hb rfl rfl List.take_left ⟨rfl, rfl⟩
  simp -dsimp -implicitDefEqProofs only [aw, slots0, V.copy, V.lend, V.lend1, V.cells, V.boxable, over, bldV, boundV, rowsOf, plains, V.plain, Nat.reduceLeDiff, cond_true, cond_false, implies_true, eq_self, ne_eq, reduceIte, reduceCtorEq, Nat.reduceBEq, Nat.reduceLT, Nat.reduceEqDiff, Nat.reduceAdd, Nat.reduceSub, Nat.reduceMul, vts_eq]
  refine fun_ret (by simpa only [vts_eq] using tnode_fun s below hs _) ?_
  by_cases h0 : nodeT s below = 0
  · rw [if_pos h0] at hq
    simp -dsimp -implicitDefEqProofs only [aw, slots0, V.copy, V.lend, V.lend1, V.cells, V.boxable, over, bldV, boundV, rowsOf, plains, V.plain, Nat.reduceLeDiff, cond_true, cond_false, implies_true, eq_self, ne_eq, reduceIte, reduceCtorEq, Nat.reduceBEq, Nat.reduceLT, Nat.reduceEqDiff, Nat.reduceAdd, Nat.reduceSub, Nat.reduceMul, h0, Int.reduceEq, decide_true, decide_false]
    refine awp_forK [1, 2, 16, 17, 18] (R := fun (j : Nat) ρ σ' => ρ = [(1, .d (.lit (.bool below))), (2, .ptr σ.length 0), (16, .d (.sl (s.args.map dts))), (17, vint .i64 s.args.length), (18, vint .i64 j)] ∧ σ' = σ ++ [boxT s] ∧ checkT s below = checkTs (s.args.drop j) (below || decide (s.op = 5))) s.args.length ⟨rfl, rfl, by rw [List.drop_zero]; exact hq⟩ ?_ _
    rintro j ρ' σ' hj ⟨rfl, rfl, hrec⟩
    by_cases hlt : j < s.args.length
    · rw [List.drop_eq_getElem_cons hlt] at hrec
      simp only [checkTs] at hrec
      have ihj := ih s.args[j] (List.getElem_mem hlt) (below || decide (s.op = 5)) (by have := tbig_arg (List.getElem_mem hlt); omega)
      cases below with
      | true =>
        rw [Bool.true_or] at hrec ihj
        simp -dsimp -implicitDefEqProofs only [aw, slots0, V.copy, V.lend, V.lend1, V.cells, V.boxable, over, bldV, boundV, rowsOf, plains, V.plain, Nat.reduceLeDiff, cond_true, cond_false, implies_true, eq_self, ne_eq, reduceIte, reduceCtorEq, Nat.reduceBEq, Nat.reduceLT, Nat.reduceEqDiff, Nat.reduceAdd, Nat.reduceSub, Nat.reduceMul, Int.ofNat_lt, hlt, decide_true, List.getElem?_eq_getElem hlt, dts_eq s.args[j]]
        refine fun_ret (by simpa only [vts_eq] using ihj _) ?_
        by_cases h1 : checkT s.args[j] true = 0
        · rw [if_pos h1] at hrec
          simp -dsimp -implicitDefEqProofs only [aw, slots0, V.copy, V.lend, V.lend1, V.cells, V.boxable, over, bldV, boundV, rowsOf, plains, V.plain, Nat.reduceLeDiff, cond_true, cond_false, implies_true, eq_self, ne_eq, reduceIte, reduceCtorEq, Nat.reduceBEq, Nat.reduceLT, Nat.reduceEqDiff, Nat.reduceAdd, Nat.reduceSub, Nat.reduceMul, h1, Int.reduceEq, decide_true, decide_false, wrap_nat hlt (show s.args.length ≤ 9223372036854775807 by omega)]
          exact ⟨hlt, Nxt.drop1 (Nat.le_refl _) (boxesBelow_app hb rfl) (by simp [slotsBelow, V.under, V.unders]) ⟨rfl, rfl, by rw [Bool.true_or]; exact hrec⟩⟩
        · rw [if_neg h1] at hrec
          simp -dsimp -implicitDefEqProofs only [aw, slots0, V.copy, V.lend, V.lend1, V.cells, V.boxable, over, bldV, boundV, rowsOf, plains, V.plain, Nat.reduceLeDiff, cond_true, cond_false, implies_true, eq_self, ne_eq, reduceIte, reduceCtorEq, Nat.reduceBEq, Nat.reduceLT, Nat.reduceEqDiff, Nat.reduceAdd, Nat.reduceSub, Nat.reduceMul, decide_eq_false h1]
          exact out _ _ hrec
      | false =>
        rw [Bool.false_or] at hrec ihj
        simp -dsimp -implicitDefEqProofs only [aw, slots0, V.copy, V.lend, V.lend1, V.cells, V.boxable, over, bldV, boundV, rowsOf, plains, V.plain, Nat.reduceLeDiff, cond_true, cond_false, implies_true, eq_self, ne_eq, reduceIte, reduceCtorEq, Nat.reduceBEq, Nat.reduceLT, Nat.reduceEqDiff, Nat.reduceAdd, Nat.reduceSub, Nat.reduceMul, Int.ofNat_lt, hlt, decide_true, List.getElem?_eq_getElem hlt, dts_eq s.args[j]]
        refine fun_ret (by simpa only [vts_eq] using ihj _) ?_
        by_cases h1 : checkT s.args[j] (decide (s.op = 5)) = 0
        · rw [if_pos h1] at hrec
          simp -dsimp -implicitDefEqProofs only [aw, slots0, V.copy, V.lend, V.lend1, V.cells, V.boxable, over, bldV, boundV, rowsOf, plains, V.plain, Nat.reduceLeDiff, cond_true, cond_false, implies_true, eq_self, ne_eq, reduceIte, reduceCtorEq, Nat.reduceBEq, Nat.reduceLT, Nat.reduceEqDiff, Nat.reduceAdd, Nat.reduceSub, Nat.reduceMul, h1, Int.reduceEq, decide_true, decide_false, wrap_nat hlt (show s.args.length ≤ 9223372036854775807 by omega)]
          exact ⟨hlt, Nxt.drop1 (Nat.le_refl _) (boxesBelow_app hb rfl) (by simp [slotsBelow, V.under, V.unders]) ⟨rfl, rfl, by rw [Bool.false_or]; exact hrec⟩⟩
        · rw [if_neg h1] at hrec
          simp -dsimp -implicitDefEqProofs only [aw, slots0, V.copy, V.lend, V.lend1, V.cells, V.boxable, over, bldV, boundV, rowsOf, plains, V.plain, Nat.reduceLeDiff, cond_true, cond_false, implies_true, eq_self, ne_eq, reduceIte, reduceCtorEq, Nat.reduceBEq, Nat.reduceLT, Nat.reduceEqDiff, Nat.reduceAdd, Nat.reduceSub, Nat.reduceMul, decide_eq_false h1]
          exact out _ _ hrec
    · simp -dsimp -implicitDefEqProofs only [aw, slots0, V.copy, V.lend, V.lend1, V.cells, V.boxable, over, bldV, boundV, rowsOf, plains, V.plain, Nat.reduceLeDiff, cond_true, cond_false, implies_true, eq_self, ne_eq, reduceIte, reduceCtorEq, Nat.reduceBEq, Nat.reduceLT, Nat.reduceEqDiff, Nat.reduceAdd, Nat.reduceSub, Nat.reduceMul, Int.ofNat_lt, hlt, decide_false]
      rw [List.drop_eq_nil_of_le (by omega)] at hrec
      exact out 0 _ (by rw [hrec]; rfl)
  · rw [if_neg h0] at hq
    simp -dsimp -implicitDefEqProofs only [aw, slots0, V.copy, V.lend, V.lend1, V.cells, V.boxable, over, bldV, boundV, rowsOf, plains, V.plain, Nat.reduceLeDiff, cond_true, cond_false, implies_true, eq_self, ne_eq, reduceIte, reduceCtorEq, Nat.reduceBEq, Nat.reduceLT, Nat.reduceEqDiff, Nat.reduceAdd, Nat.reduceSub, Nat.reduceMul, decide_eq_false h0]
    exact out _ _ hq
/-- The error of a sequence. -/
def validT (s : Ts) : Int := if 8 < tdp s ∨ 100 < tsz s then 2 else checkT s false
theorem tvalid_fun (s : Ts) (hs : tbig s ≤ 1000000) (σ : List (List V)) : Fun G 8 [vts s] σ (RetV (.d (dint (validT s))) σ) := by
  refine fun_code Tryz.func8 k8 (by simp only [vts_eq]; rfl) fun hb hw => ?_
  unfold c8
  have out : ∀ (n : Int) (l : List (List V)), validT s = n → fin σ.length rs8 (RetV (.d (dint (validT s))) σ) .ret [(2, .d (.lit (.int .i64 n)))] (σ ++ l) := fun n l h => by
    rw [h]; exact fin_ret hb rfl rfl List.take_left ⟨rfl, rfl⟩
  have c8 : decide ((8 : Int) < (tdp s : Nat)) = decide (8 < tdp s) := by congr 1; apply propext; omega
  have c100 : decide ((100 : Int) < (tsz s : Nat)) = decide (100 < tsz s) := by congr 1; apply propext; omega
  simp -dsimp -implicitDefEqProofs only [aw, slots0, V.copy, V.lend, V.lend1, V.cells, V.boxable, over, bldV, boundV, rowsOf, plains, V.plain, Nat.reduceLeDiff, cond_true, cond_false, implies_true, eq_self, ne_eq, reduceIte, reduceCtorEq, Nat.reduceBEq, Nat.reduceLT, Nat.reduceEqDiff, Nat.reduceAdd, Nat.reduceSub, Nat.reduceMul, vts_eq]
  refine fun_ret (by simpa only [vts_eq] using tdepth_fun s hs _) ?_
  by_cases h1 : 8 < tdp s
  · simp -dsimp -implicitDefEqProofs only [aw, slots0, V.copy, V.lend, V.lend1, V.cells, V.boxable, over, bldV, boundV, rowsOf, plains, V.plain, Nat.reduceLeDiff, cond_true, cond_false, implies_true, eq_self, ne_eq, reduceIte, reduceCtorEq, Nat.reduceBEq, Nat.reduceLT, Nat.reduceEqDiff, Nat.reduceAdd, Nat.reduceSub, Nat.reduceMul, c8, decide_eq_true h1]
    exact out 2 _ (by unfold validT; rw [if_pos (.inl h1)])
  · simp -dsimp -implicitDefEqProofs only [aw, slots0, V.copy, V.lend, V.lend1, V.cells, V.boxable, over, bldV, boundV, rowsOf, plains, V.plain, Nat.reduceLeDiff, cond_true, cond_false, implies_true, eq_self, ne_eq, reduceIte, reduceCtorEq, Nat.reduceBEq, Nat.reduceLT, Nat.reduceEqDiff, Nat.reduceAdd, Nat.reduceSub, Nat.reduceMul, c8, decide_eq_false h1]
    refine fun_ret (by simpa only [vts_eq] using tsize_fun s hs _) ?_
    by_cases h2 : 100 < tsz s
    · simp -dsimp -implicitDefEqProofs only [aw, slots0, V.copy, V.lend, V.lend1, V.cells, V.boxable, over, bldV, boundV, rowsOf, plains, V.plain, Nat.reduceLeDiff, cond_true, cond_false, implies_true, eq_self, ne_eq, reduceIte, reduceCtorEq, Nat.reduceBEq, Nat.reduceLT, Nat.reduceEqDiff, Nat.reduceAdd, Nat.reduceSub, Nat.reduceMul, c100, decide_eq_true h2]
      exact out 2 _ (by unfold validT; rw [if_pos (.inr h2)])
    · simp -dsimp -implicitDefEqProofs only [aw, slots0, V.copy, V.lend, V.lend1, V.cells, V.boxable, over, bldV, boundV, rowsOf, plains, V.plain, Nat.reduceLeDiff, cond_true, cond_false, implies_true, eq_self, ne_eq, reduceIte, reduceCtorEq, Nat.reduceBEq, Nat.reduceLT, Nat.reduceEqDiff, Nat.reduceAdd, Nat.reduceSub, Nat.reduceMul, c100, decide_eq_false h2]
      refine fun_ret (by simpa only [vts_eq] using check_fun s false hs _) ?_
      simp -dsimp -implicitDefEqProofs only [aw, slots0, V.copy, V.lend, V.lend1, V.cells, V.boxable, over, bldV, boundV, rowsOf, plains, V.plain, Nat.reduceLeDiff, cond_true, cond_false, implies_true, eq_self, ne_eq, reduceIte, reduceCtorEq, Nat.reduceBEq, Nat.reduceLT, Nat.reduceEqDiff, Nat.reduceAdd, Nat.reduceSub, Nat.reduceMul]
      exact out _ _ (by unfold validT; rw [if_neg (by omega)])
end Go.Proofs.YtbhippphcmkjnaaGreatDoor
