/-
  Lengths of matches: tseq.length, Min, Max.
-/
import Derived.Test.YtbhippphcmkjnaaGreatDoorTCheck
set_option linter.unusedVariables false
set_option linter.unusedSimpArgs false
namespace Go.Proofs.YtbhippphcmkjnaaGreatDoor
open Go.RowKit

def lenF (o : Int) (l : List Int) (bound : Int) (mx : Bool) : Int :=
  if o = 2 then l.getD 0 0 + l.getD 1 0 + bound - 1
  else if o = 3 then l.getD 0 0 * bound
  else if o = 4 then (if mx then maxL l else minL l)
  else if o = 5 then maxL l
  else if o = 6 ∨ o = 7 then l.getD 0 0
  else 1
mutual
/-- The least or the greatest length of a match of a valid sequence. -/
def lenT (mx : Bool) : Ts → Int
  | .mk o a b _ _ l => lenF o (lenTs mx l) (if mx then b else a) mx
def lenTs (mx : Bool) : List Ts → List Int
  | [] => []
  | a :: r => lenT mx a :: lenTs mx r
end
theorem lenTs_map (mx : Bool) (l : List Ts) : lenTs mx l = l.map (lenT mx) := by
  induction l with
  | nil => rfl
  | cons a r ih => simp only [lenTs, ih, List.map_cons]
theorem lenT_eq (mx : Bool) (s : Ts) : lenT mx s = lenF s.op (s.args.map (lenT mx)) (if mx then s.hi else s.lo) mx := by cases s; simp only [lenT, lenTs_map, Ts.op, Ts.args, Ts.hi, Ts.lo]

theorem length_fun (s : Ts) (l : List Int) (bound : Int) (mx : Bool) (F : FuncId) (hl : l.length ≤ 1000000) (hb2 : s.op = 2 → l.length = 2) (hb1 : s.op = 3 ∨ s.op = 6 ∨ s.op = 7 → l.length = 1) (hb5 : s.op = 4 ∨ s.op = 5 → 2 ≤ l.length)
    (hm : ∀ x, x ∈ l → 0 ≤ x ∧ x ≤ 1000000000000) (hb0 : 0 ≤ bound ∧ bound ≤ 16) (hF : s.op = 4 → ∀ σ, Fun G F [.d (.sl (dints l))] σ (RetV (.d (dint (if mx then maxL l else minL l))) σ)) (σ : List (List V)) :
    Fun G 37 [vts s, .d (.sl (dints l)), .d (dint bound), .fn F []] σ (RetV (.d (dint (lenF s.op l bound mx))) σ) := by
  refine fun_code Tryz.func37 k37 (by simp only [vts_eq]; rfl) fun hb hw => ?_
  unfold c37 
  have out : ∀ (n : Int) (k : List (List V)), lenF s.op l bound mx = n → fin σ.length rs37 (RetV (.d (dint (lenF s.op l bound mx))) σ) .ret [(8, .d (.lit (.int .i64 n)))] (σ ++ k) := fun n k h => by
    rw [h]; exact fin_ret hb rfl rfl List.take_left ⟨rfl, rfl⟩
  by_cases o2 : s.op = 2
  · have h2 := hb2 o2
    match l, h2 with
    | [x, y], _ =>
    have hx := hm x (by simp)
    have hy := hm y (by simp)
    have e0 : iaV 1 (.d (.sl [[dint x], [dint y]])) (V.d (D.lit (Value.int IntKind.i64 0))) = some (.row [dint x] 0) := rfl
    have e1 : iaV 1 (.d (.sl [[dint x], [dint y]])) (V.d (D.lit (Value.int IntKind.i64 1))) = some (.row [dint y] 0) := rfl
    have w1 : IntKind.i64.wrap (x + y) = x + y := wrap_i64 (by omega) (by omega)
    have w2 : IntKind.i64.wrap (x + y + bound) = x + y + bound := wrap_i64 (by omega) (by omega)
    have w3 : IntKind.i64.wrap (x + y + bound - 1) = x + y + bound - 1 := wrap_i64 (by omega) (by omega)
    simp -dsimp -implicitDefEqProofs only [aw, slots0, V.copy, V.lend, V.lend1, V.cells, V.boxable, over, bldV, boundV, rowsOf, plains, V.plain, Nat.reduceLeDiff, cond_true, cond_false, implies_true, eq_self, ne_eq, reduceIte, reduceCtorEq, Nat.reduceBEq, Nat.reduceLT, Nat.reduceEqDiff, Nat.reduceAdd, Nat.reduceSub, Nat.reduceMul, vts_eq, decide_eq_true o2, e0, e1, w1, w2, w3]
    exact out _ _ (by unfold lenF; rw [if_pos o2]; rfl)
  have q2 := decide_eq_false o2
  by_cases o3 : s.op = 3
  · have h1 := hb1 (.inl o3)
    match l, h1 with
    | [x], _ =>
    have hx := hm x (by simp)
    have e0 : iaV 1 (.d (.sl [[dint x]])) (V.d (D.lit (Value.int IntKind.i64 0))) = some (.row [dint x] 0) := rfl
    have hxb : 0 ≤ x * bound ∧ x * bound ≤ 1000000000000 * 16 := ⟨Int.mul_nonneg hx.1 hb0.1, Int.mul_le_mul hx.2 hb0.2 hb0.1 (by omega)⟩
    have w1 : IntKind.i64.wrap (x * bound) = x * bound := wrap_i64 (by omega) (by omega)
    simp -dsimp -implicitDefEqProofs only [aw, slots0, V.copy, V.lend, V.lend1, V.cells, V.boxable, over, bldV, boundV, rowsOf, plains, V.plain, Nat.reduceLeDiff, cond_true, cond_false, implies_true, eq_self, ne_eq, reduceIte, reduceCtorEq, Nat.reduceBEq, Nat.reduceLT, Nat.reduceEqDiff, Nat.reduceAdd, Nat.reduceSub, Nat.reduceMul, vts_eq, q2, decide_eq_true o3, e0, w1]
    exact out _ _ (by unfold lenF; rw [if_neg o2, if_pos o3]; rfl)
  have q3 := decide_eq_false o3
  by_cases o4 : s.op = 4
  · simp -dsimp -implicitDefEqProofs only [aw, slots0, V.copy, V.lend, V.lend1, V.cells, V.boxable, over, bldV, boundV, rowsOf, plains, V.plain, Nat.reduceLeDiff, cond_true, cond_false, implies_true, eq_self, ne_eq, reduceIte, reduceCtorEq, Nat.reduceBEq, Nat.reduceLT, Nat.reduceEqDiff, Nat.reduceAdd, Nat.reduceSub, Nat.reduceMul, vts_eq, q2, q3, decide_eq_true o4]
    refine fun_ret (hF o4 _) ?_
    simp -dsimp -implicitDefEqProofs only [aw, slots0, V.copy, V.lend, V.lend1, V.cells, V.boxable, over, bldV, boundV, rowsOf, plains, V.plain, Nat.reduceLeDiff, cond_true, cond_false, implies_true, eq_self, ne_eq, reduceIte, reduceCtorEq, Nat.reduceBEq, Nat.reduceLT, Nat.reduceEqDiff, Nat.reduceAdd, Nat.reduceSub, Nat.reduceMul]
    exact out _ _ (by unfold lenF; rw [if_neg o2, if_neg o3, if_pos o4])
  have q4 := decide_eq_false o4
  by_cases o5 : s.op = 5
  · have h5 := hb5 (.inr o5)
    simp -dsimp -implicitDefEqProofs only [aw, slots0, V.copy, V.lend, V.lend1, V.cells, V.boxable, over, bldV, boundV, rowsOf, plains, V.plain, Nat.reduceLeDiff, cond_true, cond_false, implies_true, eq_self, ne_eq, reduceIte, reduceCtorEq, Nat.reduceBEq, Nat.reduceLT, Nat.reduceEqDiff, Nat.reduceAdd, Nat.reduceSub, Nat.reduceMul, vts_eq, q2, q3, q4, decide_eq_true o5]
    refine fun_ret (max_any l (by intro h; rw [h] at h5; simp at h5) hl _) ?_
    simp -dsimp -implicitDefEqProofs only [aw, slots0, V.copy, V.lend, V.lend1, V.cells, V.boxable, over, bldV, boundV, rowsOf, plains, V.plain, Nat.reduceLeDiff, cond_true, cond_false, implies_true, eq_self, ne_eq, reduceIte, reduceCtorEq, Nat.reduceBEq, Nat.reduceLT, Nat.reduceEqDiff, Nat.reduceAdd, Nat.reduceSub, Nat.reduceMul]
    exact out _ _ (by unfold lenF; rw [if_neg o2, if_neg o3, if_neg o4, if_pos o5])
  have q5 := decide_eq_false o5
  by_cases o67 : s.op = 6 ∨ s.op = 7
  · have h1 := hb1 (.inr o67)
    match l, h1 with
    | [x], _ =>
    have e0 : iaV 1 (.d (.sl [[dint x]])) (V.d (D.lit (Value.int IntKind.i64 0))) = some (.row [dint x] 0) := rfl
    have hres : lenF s.op [x] bound mx = x := by unfold lenF; rw [if_neg o2, if_neg o3, if_neg o4, if_neg o5, if_pos o67]; rfl
    by_cases o6 : s.op = 6
    · simp -dsimp -implicitDefEqProofs only [aw, slots0, V.copy, V.lend, V.lend1, V.cells, V.boxable, over, bldV, boundV, rowsOf, plains, V.plain, Nat.reduceLeDiff, cond_true, cond_false, implies_true, eq_self, ne_eq, reduceIte, reduceCtorEq, Nat.reduceBEq, Nat.reduceLT, Nat.reduceEqDiff, Nat.reduceAdd, Nat.reduceSub, Nat.reduceMul, vts_eq, q2, q3, q4, q5, decide_eq_true o6, e0]
      exact out _ _ hres
    · have o7 : s.op = 7 := by omega
      simp -dsimp -implicitDefEqProofs only [aw, slots0, V.copy, V.lend, V.lend1, V.cells, V.boxable, over, bldV, boundV, rowsOf, plains, V.plain, Nat.reduceLeDiff, cond_true, cond_false, implies_true, eq_self, ne_eq, reduceIte, reduceCtorEq, Nat.reduceBEq, Nat.reduceLT, Nat.reduceEqDiff, Nat.reduceAdd, Nat.reduceSub, Nat.reduceMul, vts_eq, q2, q3, q4, q5, decide_eq_false o6, decide_eq_true o7, e0]
      exact out _ _ hres
  have o6 : ¬ s.op = 6 := fun h => o67 (.inl h)
  have o7 : ¬ s.op = 7 := fun h => o67 (.inr h)
  simp -dsimp -implicitDefEqProofs only [aw, slots0, V.copy, V.lend, V.lend1, V.cells, V.boxable, over, bldV, boundV, rowsOf, plains, V.plain, Nat.reduceLeDiff, cond_true, cond_false, implies_true, eq_self, ne_eq, reduceIte, reduceCtorEq, Nat.reduceBEq, Nat.reduceLT, Nat.reduceEqDiff, Nat.reduceAdd, Nat.reduceSub, Nat.reduceMul, vts_eq, q2, q3, q4, q5, decide_eq_false o6, decide_eq_false o7]
  exact out _ _ (by unfold lenF; rw [if_neg o2, if_neg o3, if_neg o4, if_neg o5, if_neg o67])
end Go.Proofs.YtbhippphcmkjnaaGreatDoor
