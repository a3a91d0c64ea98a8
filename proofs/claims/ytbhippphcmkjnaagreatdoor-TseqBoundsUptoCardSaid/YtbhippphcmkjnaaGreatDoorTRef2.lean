/-
  The reference of sequences: shaped, sets.
-/
import Derived.Test.YtbhippphcmkjnaaGreatDoorTRef1
import Derived.Test.YtbhippphcmkjnaaGreatDoorTSrt
set_option linter.unusedVariables false
set_option linter.unusedSimpArgs false
namespace Go.Proofs.YtbhippphcmkjnaaGreatDoor
open Go.RowKit

def nmB (s : Ts) : Bool := decide (s.name = ⟨#[]⟩)
def bndB (s : Ts) : Bool := (decide (0 ≤ s.lo) && decide (s.lo ≤ s.hi)) && decide (s.hi ≤ 16)
def bareB (s : Ts) : Bool := zeroB s.ex && nmB s
def shapedB (s : Ts) : Bool :=
  if s.op = 1 then (decide ((s.args.length : Int) = 0) && plainB s) && nmB s
  else if s.op = 2 then (decide ((s.args.length : Int) = 2) && bndB s) && bareB s
  else if s.op = 3 then ((decide ((s.args.length : Int) = 1) && bndB s) && decide (1 ≤ s.lo)) && bareB s
  else if s.op = 4 ∨ s.op = 5 then ((decide (2 ≤ (s.args.length : Int)) && decide ((s.args.length : Int) ≤ 8)) && plainB s) && bareB s
  else if s.op = 6 then decide ((s.args.length : Int) = 1) && plainB s
  else if s.op = 7 then (decide ((s.args.length : Int) = 1) && plainB s) && nmB s
  else false
theorem shapedB_eq (s : Ts) : shapedB s = (shapeB s && ((writtenB s.op || zeroB s.ex) && (decide (s.op = 6) || nmB s))) := by
  have c0 : decide ((s.args.length : Int) = 0) = decide (s.args.length = 0) := by congr 1; apply propext; omega
  have c1 : decide ((s.args.length : Int) = 1) = decide (s.args.length = 1) := by congr 1; apply propext; omega
  have c2 : decide ((s.args.length : Int) = 2) = decide (s.args.length = 2) := by congr 1; apply propext; omega
  have c3 : (decide (2 ≤ (s.args.length : Int)) && decide ((s.args.length : Int) ≤ 8)) = decide (2 ≤ s.args.length ∧ s.args.length ≤ 8) := by
    rw [← Bool.decide_and]; congr 1; apply propext; omega
  unfold shapedB shapeB writtenB bndB bareB withinB
  rw [c0, c1, c2, c3]
  generalize zeroB s.ex = z
  generalize nmB s = m
  generalize plainB s = p
  by_cases o1 : s.op = 1
  · simp [o1, Bool.and_assoc]
  by_cases o2 : s.op = 2
  · simp [o2, Bool.and_assoc]
  by_cases o3 : s.op = 3
  · simp only [o3, Int.reduceEq, if_true, if_false, decide_false, decide_true, Bool.false_or, Bool.or_false]
    by_cases g : 1 ≤ s.lo
    · rw [decide_eq_true g, decide_eq_true (show 0 ≤ s.lo by omega)]; simp [Bool.and_assoc]
    · rw [decide_eq_false g]; simp
  by_cases o4 : s.op = 4 ∨ s.op = 5
  · have e1 : decide (s.op = 1) = false := decide_eq_false o1
    have e6 : decide (s.op = 6) = false := decide_eq_false (by omega)
    have e7 : decide (s.op = 7) = false := decide_eq_false (by omega)
    rw [if_neg o1, if_neg o2, if_neg o3, if_pos o4, if_neg o1, if_neg o2, if_neg o3, if_pos o4, e1, e6, e7]
    simp [Bool.and_assoc]
  rw [if_neg o1, if_neg o2, if_neg o3, if_neg o4, if_neg o1, if_neg o2, if_neg o3, if_neg o4]
  by_cases o6 : s.op = 6
  · simp [o6]
  by_cases o7 : s.op = 7
  · simp [o7, Bool.and_assoc]
  · simp [o6, o7]
set_option maxHeartbeats 1000000 in
theorem shaped_fun (s : Ts) (hs : s.args.length ≤ 1000000) (σ : List (List V)) : Fun G 50 [vts s] σ (RetV (vbool (shapedB s)) σ) := by
  have hsh : shapedB s = shapedB s := rfl
  conv at hsh => rhs; unfold shapedB
  refine fun_code Tryz.func50 k50 (by simp only [vts_eq]; rfl) fun hb hw => ?_
  unfold c50
  refine awp_mid [(1, .ptr σ.length 0)] (σ ++ [boxT s]) ?_ ?_
  · simp -dsimp -implicitDefEqProofs only [aw, slots0, V.copy, V.lend, V.lend1, V.cells, V.boxable, over, bldV, boundV, rowsOf, plains, V.plain, Nat.reduceLeDiff, cond_true, cond_false, implies_true, eq_self, ne_eq, reduceIte, reduceCtorEq, Nat.reduceBEq, Nat.reduceLT, Nat.reduceEqDiff, Nat.reduceAdd, Nat.reduceSub, Nat.reduceMul, vts_eq]
  refine awp_mid [(1, .ptr σ.length 0), (3, vint .i64 s.args.length)] (σ ++ [boxT s]) ?_ ?_
  · simp -dsimp -implicitDefEqProofs only [aw, slots0, V.copy, V.lend, V.lend1, V.cells, V.boxable, over, bldV, boundV, rowsOf, plains, V.plain, Nat.reduceLeDiff, cond_true, cond_false, implies_true, eq_self, ne_eq, reduceIte, reduceCtorEq, Nat.reduceBEq, Nat.reduceLT, Nat.reduceEqDiff, Nat.reduceAdd, Nat.reduceSub, Nat.reduceMul]
  refine awp_mid [(1, .ptr σ.length 0), (3, vint .i64 s.args.length), (4, vbool (bndB s))] (σ ++ [boxT s]) ?_ ?_
  · simp -dsimp -implicitDefEqProofs only [aw, slots0, V.copy, V.lend, V.lend1, V.cells, V.boxable, over, bldV, boundV, rowsOf, plains, V.plain, Nat.reduceLeDiff, cond_true, cond_false, implies_true, eq_self, ne_eq, reduceIte, reduceCtorEq, Nat.reduceBEq, Nat.reduceLT, Nat.reduceEqDiff, Nat.reduceAdd, Nat.reduceSub, Nat.reduceMul]
    refine iteT_intro (fun h1 => ?_) (fun h1 => ?_)
    · simp -dsimp -implicitDefEqProofs only [aw, slots0, V.copy, V.lend, V.lend1, V.cells, V.boxable, over, bldV, boundV, rowsOf, plains, V.plain, Nat.reduceLeDiff, cond_true, cond_false, implies_true, eq_self, ne_eq, reduceIte, reduceCtorEq, Nat.reduceBEq, Nat.reduceLT, Nat.reduceEqDiff, Nat.reduceAdd, Nat.reduceSub, Nat.reduceMul]
      refine iteT_intro (fun h2 => ?_) (fun h2 => ?_)
      · simp -dsimp -implicitDefEqProofs only [aw, slots0, V.copy, V.lend, V.lend1, V.cells, V.boxable, over, bldV, boundV, rowsOf, plains, V.plain, Nat.reduceLeDiff, cond_true, cond_false, implies_true, eq_self, ne_eq, reduceIte, reduceCtorEq, Nat.reduceBEq, Nat.reduceLT, Nat.reduceEqDiff, Nat.reduceAdd, Nat.reduceSub, Nat.reduceMul]
        simp [bndB, h1, h2]
      · simp -dsimp -implicitDefEqProofs only [aw, slots0, V.copy, V.lend, V.lend1, V.cells, V.boxable, over, bldV, boundV, rowsOf, plains, V.plain, Nat.reduceLeDiff, cond_true, cond_false, implies_true, eq_self, ne_eq, reduceIte, reduceCtorEq, Nat.reduceBEq, Nat.reduceLT, Nat.reduceEqDiff, Nat.reduceAdd, Nat.reduceSub, Nat.reduceMul]
        simp [bndB, h1, h2]
    · simp -dsimp -implicitDefEqProofs only [aw, slots0, V.copy, V.lend, V.lend1, V.cells, V.boxable, over, bldV, boundV, rowsOf, plains, V.plain, Nat.reduceLeDiff, cond_true, cond_false, implies_true, eq_self, ne_eq, reduceIte, reduceCtorEq, Nat.reduceBEq, Nat.reduceLT, Nat.reduceEqDiff, Nat.reduceAdd, Nat.reduceSub, Nat.reduceMul]
      simp [bndB, h1]
  refine awp_mid [(1, .ptr σ.length 0), (3, vint .i64 s.args.length), (4, vbool (bndB s)), (5, vbool (plainB s))] (σ ++ [boxT s]) ?_ ?_
  · simp -dsimp -implicitDefEqProofs only [aw, slots0, V.copy, V.lend, V.lend1, V.cells, V.boxable, over, bldV, boundV, rowsOf, plains, V.plain, Nat.reduceLeDiff, cond_true, cond_false, implies_true, eq_self, ne_eq, reduceIte, reduceCtorEq, Nat.reduceBEq, Nat.reduceLT, Nat.reduceEqDiff, Nat.reduceAdd, Nat.reduceSub, Nat.reduceMul]
    refine iteT_intro (fun h1 => ?_) (fun h1 => ?_)
    · simp -dsimp -implicitDefEqProofs only [aw, slots0, V.copy, V.lend, V.lend1, V.cells, V.boxable, over, bldV, boundV, rowsOf, plains, V.plain, Nat.reduceLeDiff, cond_true, cond_false, implies_true, eq_self, ne_eq, reduceIte, reduceCtorEq, Nat.reduceBEq, Nat.reduceLT, Nat.reduceEqDiff, Nat.reduceAdd, Nat.reduceSub, Nat.reduceMul]
      simp [plainB, h1]
    · simp -dsimp -implicitDefEqProofs only [aw, slots0, V.copy, V.lend, V.lend1, V.cells, V.boxable, over, bldV, boundV, rowsOf, plains, V.plain, Nat.reduceLeDiff, cond_true, cond_false, implies_true, eq_self, ne_eq, reduceIte, reduceCtorEq, Nat.reduceBEq, Nat.reduceLT, Nat.reduceEqDiff, Nat.reduceAdd, Nat.reduceSub, Nat.reduceMul]
      simp [plainB, h1]
  refine awp_mid [(1, .ptr σ.length 0), (3, vint .i64 s.args.length), (4, vbool (bndB s)), (5, vbool (plainB s)), (6, vbool (bareB s))] (σ ++ [boxT s]) ?_ ?_
  · simp -dsimp -implicitDefEqProofs only [aw, slots0, V.copy, V.lend, V.lend1, V.cells, V.boxable, over, bldV, boundV, rowsOf, plains, V.plain, Nat.reduceLeDiff, cond_true, cond_false, implies_true, eq_self, ne_eq, reduceIte, reduceCtorEq, Nat.reduceBEq, Nat.reduceLT, Nat.reduceEqDiff, Nat.reduceAdd, Nat.reduceSub, Nat.reduceMul]
    refine fun_ret (by simpa only [vex_eq] using rzero_fun s.ex _) ?_
    cases hz : zeroB s.ex with
    | true =>
      simp -dsimp -implicitDefEqProofs only [aw, slots0, V.copy, V.lend, V.lend1, V.cells, V.boxable, over, bldV, boundV, rowsOf, plains, V.plain, Nat.reduceLeDiff, cond_true, cond_false, implies_true, eq_self, ne_eq, reduceIte, reduceCtorEq, Nat.reduceBEq, Nat.reduceLT, Nat.reduceEqDiff, Nat.reduceAdd, Nat.reduceSub, Nat.reduceMul]
      simp [bareB, hz, nmB]
    | false =>
      simp -dsimp -implicitDefEqProofs only [aw, slots0, V.copy, V.lend, V.lend1, V.cells, V.boxable, over, bldV, boundV, rowsOf, plains, V.plain, Nat.reduceLeDiff, cond_true, cond_false, implies_true, eq_self, ne_eq, reduceIte, reduceCtorEq, Nat.reduceBEq, Nat.reduceLT, Nat.reduceEqDiff, Nat.reduceAdd, Nat.reduceSub, Nat.reduceMul]
      simp [bareB, hz]
  generalize bndB s = bB at *
  generalize plainB s = pB at *
  generalize bareB s = rB at *
  have hnm : decide (s.name = ⟨#[]⟩) = nmB s := rfl
  by_cases o1 : s.op = 1
  · rw [if_pos o1] at hsh
    simp -dsimp -implicitDefEqProofs only [aw, slots0, V.copy, V.lend, V.lend1, V.cells, V.boxable, over, bldV, boundV, rowsOf, plains, V.plain, Nat.reduceLeDiff, cond_true, cond_false, implies_true, eq_self, ne_eq, reduceIte, reduceCtorEq, Nat.reduceBEq, Nat.reduceLT, Nat.reduceEqDiff, Nat.reduceAdd, Nat.reduceSub, Nat.reduceMul, o1, Int.reduceEq, decide_true, decide_false, hnm]
    repeat' (first | exact fin_ret hb rfl rfl List.take_left ⟨by rw [hsh]; first | (simp_all; done) | (simp_all; rfl) | (simp only [*, Bool.false_and, Bool.and_false, Bool.true_and, Bool.and_true]; done) | (simp only [*, Bool.false_and, Bool.and_false, Bool.true_and, Bool.and_true]; rfl), rfl⟩ | (refine iteT_intro (fun h => ?_) (fun h => ?_) <;> simp -dsimp -implicitDefEqProofs only [aw, slots0, V.copy, V.lend, V.lend1, V.cells, V.boxable, over, bldV, boundV, rowsOf, plains, V.plain, Nat.reduceLeDiff, cond_true, cond_false, implies_true, eq_self, ne_eq, reduceIte, reduceCtorEq, Nat.reduceBEq, Nat.reduceLT, Nat.reduceEqDiff, Nat.reduceAdd, Nat.reduceSub, Nat.reduceMul, hnm]))
  rw [if_neg o1] at hsh
  by_cases o2 : s.op = 2
  · rw [if_pos o2] at hsh
    simp -dsimp -implicitDefEqProofs only [aw, slots0, V.copy, V.lend, V.lend1, V.cells, V.boxable, over, bldV, boundV, rowsOf, plains, V.plain, Nat.reduceLeDiff, cond_true, cond_false, implies_true, eq_self, ne_eq, reduceIte, reduceCtorEq, Nat.reduceBEq, Nat.reduceLT, Nat.reduceEqDiff, Nat.reduceAdd, Nat.reduceSub, Nat.reduceMul, o2, Int.reduceEq, decide_true, decide_false, hnm]
    repeat' (first | exact fin_ret hb rfl rfl List.take_left ⟨by rw [hsh]; first | (simp_all; done) | (simp_all; rfl) | (simp only [*, Bool.false_and, Bool.and_false, Bool.true_and, Bool.and_true]; done) | (simp only [*, Bool.false_and, Bool.and_false, Bool.true_and, Bool.and_true]; rfl), rfl⟩ | (refine iteT_intro (fun h => ?_) (fun h => ?_) <;> simp -dsimp -implicitDefEqProofs only [aw, slots0, V.copy, V.lend, V.lend1, V.cells, V.boxable, over, bldV, boundV, rowsOf, plains, V.plain, Nat.reduceLeDiff, cond_true, cond_false, implies_true, eq_self, ne_eq, reduceIte, reduceCtorEq, Nat.reduceBEq, Nat.reduceLT, Nat.reduceEqDiff, Nat.reduceAdd, Nat.reduceSub, Nat.reduceMul, hnm]))
  rw [if_neg o2] at hsh
  by_cases o3 : s.op = 3
  · rw [if_pos o3] at hsh
    simp -dsimp -implicitDefEqProofs only [aw, slots0, V.copy, V.lend, V.lend1, V.cells, V.boxable, over, bldV, boundV, rowsOf, plains, V.plain, Nat.reduceLeDiff, cond_true, cond_false, implies_true, eq_self, ne_eq, reduceIte, reduceCtorEq, Nat.reduceBEq, Nat.reduceLT, Nat.reduceEqDiff, Nat.reduceAdd, Nat.reduceSub, Nat.reduceMul, o3, Int.reduceEq, decide_true, decide_false, hnm]
    repeat' (first | exact fin_ret hb rfl rfl List.take_left ⟨by rw [hsh]; first | (simp_all; done) | (simp_all; rfl) | (simp only [*, Bool.false_and, Bool.and_false, Bool.true_and, Bool.and_true]; done) | (simp only [*, Bool.false_and, Bool.and_false, Bool.true_and, Bool.and_true]; rfl), rfl⟩ | (refine iteT_intro (fun h => ?_) (fun h => ?_) <;> simp -dsimp -implicitDefEqProofs only [aw, slots0, V.copy, V.lend, V.lend1, V.cells, V.boxable, over, bldV, boundV, rowsOf, plains, V.plain, Nat.reduceLeDiff, cond_true, cond_false, implies_true, eq_self, ne_eq, reduceIte, reduceCtorEq, Nat.reduceBEq, Nat.reduceLT, Nat.reduceEqDiff, Nat.reduceAdd, Nat.reduceSub, Nat.reduceMul, hnm]))
  rw [if_neg o3] at hsh
  by_cases o4 : s.op = 4
  · rw [if_pos (.inl o4)] at hsh
    simp -dsimp -implicitDefEqProofs only [aw, slots0, V.copy, V.lend, V.lend1, V.cells, V.boxable, over, bldV, boundV, rowsOf, plains, V.plain, Nat.reduceLeDiff, cond_true, cond_false, implies_true, eq_self, ne_eq, reduceIte, reduceCtorEq, Nat.reduceBEq, Nat.reduceLT, Nat.reduceEqDiff, Nat.reduceAdd, Nat.reduceSub, Nat.reduceMul, o4, Int.reduceEq, decide_true, decide_false, hnm]
    repeat' (first | exact fin_ret hb rfl rfl List.take_left ⟨by rw [hsh]; first | (simp_all; done) | (simp_all; rfl) | (simp only [*, Bool.false_and, Bool.and_false, Bool.true_and, Bool.and_true]; done) | (simp only [*, Bool.false_and, Bool.and_false, Bool.true_and, Bool.and_true]; rfl), rfl⟩ | (refine iteT_intro (fun h => ?_) (fun h => ?_) <;> simp -dsimp -implicitDefEqProofs only [aw, slots0, V.copy, V.lend, V.lend1, V.cells, V.boxable, over, bldV, boundV, rowsOf, plains, V.plain, Nat.reduceLeDiff, cond_true, cond_false, implies_true, eq_self, ne_eq, reduceIte, reduceCtorEq, Nat.reduceBEq, Nat.reduceLT, Nat.reduceEqDiff, Nat.reduceAdd, Nat.reduceSub, Nat.reduceMul, hnm]))
  by_cases o5 : s.op = 5
  · rw [if_pos (.inr o5)] at hsh
    simp -dsimp -implicitDefEqProofs only [aw, slots0, V.copy, V.lend, V.lend1, V.cells, V.boxable, over, bldV, boundV, rowsOf, plains, V.plain, Nat.reduceLeDiff, cond_true, cond_false, implies_true, eq_self, ne_eq, reduceIte, reduceCtorEq, Nat.reduceBEq, Nat.reduceLT, Nat.reduceEqDiff, Nat.reduceAdd, Nat.reduceSub, Nat.reduceMul, o5, Int.reduceEq, decide_true, decide_false, hnm]
    repeat' (first | exact fin_ret hb rfl rfl List.take_left ⟨by rw [hsh]; first | (simp_all; done) | (simp_all; rfl) | (simp only [*, Bool.false_and, Bool.and_false, Bool.true_and, Bool.and_true]; done) | (simp only [*, Bool.false_and, Bool.and_false, Bool.true_and, Bool.and_true]; rfl), rfl⟩ | (refine iteT_intro (fun h => ?_) (fun h => ?_) <;> simp -dsimp -implicitDefEqProofs only [aw, slots0, V.copy, V.lend, V.lend1, V.cells, V.boxable, over, bldV, boundV, rowsOf, plains, V.plain, Nat.reduceLeDiff, cond_true, cond_false, implies_true, eq_self, ne_eq, reduceIte, reduceCtorEq, Nat.reduceBEq, Nat.reduceLT, Nat.reduceEqDiff, Nat.reduceAdd, Nat.reduceSub, Nat.reduceMul, hnm]))
  rw [if_neg (by omega)] at hsh
  by_cases o6 : s.op = 6
  · rw [if_pos o6] at hsh
    simp -dsimp -implicitDefEqProofs only [aw, slots0, V.copy, V.lend, V.lend1, V.cells, V.boxable, over, bldV, boundV, rowsOf, plains, V.plain, Nat.reduceLeDiff, cond_true, cond_false, implies_true, eq_self, ne_eq, reduceIte, reduceCtorEq, Nat.reduceBEq, Nat.reduceLT, Nat.reduceEqDiff, Nat.reduceAdd, Nat.reduceSub, Nat.reduceMul, o6, Int.reduceEq, decide_true, decide_false, hnm]
    repeat' (first | exact fin_ret hb rfl rfl List.take_left ⟨by rw [hsh]; first | (simp_all; done) | (simp_all; rfl) | (simp only [*, Bool.false_and, Bool.and_false, Bool.true_and, Bool.and_true]; done) | (simp only [*, Bool.false_and, Bool.and_false, Bool.true_and, Bool.and_true]; rfl), rfl⟩ | (refine iteT_intro (fun h => ?_) (fun h => ?_) <;> simp -dsimp -implicitDefEqProofs only [aw, slots0, V.copy, V.lend, V.lend1, V.cells, V.boxable, over, bldV, boundV, rowsOf, plains, V.plain, Nat.reduceLeDiff, cond_true, cond_false, implies_true, eq_self, ne_eq, reduceIte, reduceCtorEq, Nat.reduceBEq, Nat.reduceLT, Nat.reduceEqDiff, Nat.reduceAdd, Nat.reduceSub, Nat.reduceMul, hnm]))
  rw [if_neg o6] at hsh
  by_cases o7 : s.op = 7
  · rw [if_pos o7] at hsh
    simp -dsimp -implicitDefEqProofs only [aw, slots0, V.copy, V.lend, V.lend1, V.cells, V.boxable, over, bldV, boundV, rowsOf, plains, V.plain, Nat.reduceLeDiff, cond_true, cond_false, implies_true, eq_self, ne_eq, reduceIte, reduceCtorEq, Nat.reduceBEq, Nat.reduceLT, Nat.reduceEqDiff, Nat.reduceAdd, Nat.reduceSub, Nat.reduceMul, o7, Int.reduceEq, decide_true, decide_false, hnm]
    repeat' (first | exact fin_ret hb rfl rfl List.take_left ⟨by rw [hsh]; first | (simp_all; done) | (simp_all; rfl) | (simp only [*, Bool.false_and, Bool.and_false, Bool.true_and, Bool.and_true]; done) | (simp only [*, Bool.false_and, Bool.and_false, Bool.true_and, Bool.and_true]; rfl), rfl⟩ | (refine iteT_intro (fun h => ?_) (fun h => ?_) <;> simp -dsimp -implicitDefEqProofs only [aw, slots0, V.copy, V.lend, V.lend1, V.cells, V.boxable, over, bldV, boundV, rowsOf, plains, V.plain, Nat.reduceLeDiff, cond_true, cond_false, implies_true, eq_self, ne_eq, reduceIte, reduceCtorEq, Nat.reduceBEq, Nat.reduceLT, Nat.reduceEqDiff, Nat.reduceAdd, Nat.reduceSub, Nat.reduceMul, hnm]))
  rw [if_neg o7] at hsh
  simp -dsimp -implicitDefEqProofs only [aw, slots0, V.copy, V.lend, V.lend1, V.cells, V.boxable, over, bldV, boundV, rowsOf, plains, V.plain, Nat.reduceLeDiff, cond_true, cond_false, implies_true, eq_self, ne_eq, reduceIte, reduceCtorEq, Nat.reduceBEq, Nat.reduceLT, Nat.reduceEqDiff, Nat.reduceAdd, Nat.reduceSub, Nat.reduceMul, decide_eq_false o1, decide_eq_false o2, decide_eq_false o3, decide_eq_false o4, decide_eq_false o5, decide_eq_false o6, decide_eq_false o7]
  exact fin_ret hb rfl rfl List.take_left ⟨by rw [hsh]; rfl, rfl⟩

theorem fun_lend {C : Cx} {f : FuncId} {args : List V} {σ : List (List V)} {T k : Nat} {rows : List (List D)} (h : Fun C f args σ (RetV (.own T k rows) σ)) : Fun C f args σ (RetV (.d (.sl rows)) σ) :=
  ⟨h.1, fun M bm tk pr w vs hG hI ht hl hr => (h.2 M bm tk pr w vs hG hI ht hl hr).mono fun e w' ⟨M', bm', tk', σ', o, ⟨h1, h2⟩, h3, h4, h5⟩ => by
    subst h1
    obtain ⟨u, g1, g2⟩ := h5.1 _ rfl
    refine ⟨M', bm', tk', σ', .ret (.d (.sl rows)), ⟨rfl, h2⟩, h3, h4, fun v e => ?_, fun v e => by cases e⟩
    cases e
    have gr := g2.rep
    cases gr with
    | own hd => exact ⟨u, g1, .d hd, fun _ _ _ e => by cases e⟩⟩
theorem roomV_ok {s : Ts} (h1 : tsz s ≤ 100) (h2 : tdp s ≤ 8) : 0 ≤ roomV s 100 8 := by
  unfold roomV; rw [if_pos ⟨by omega, by omega⟩]; omega
theorem roomV_no {s : Ts} (h : 8 < tdp s ∨ 100 < tsz s) : roomV s 100 8 = -1 := by
  unfold roomV; rw [if_neg (by omega)]
theorem tszs_arg {s a : Ts} (h : a ∈ s.args) : tsz a < tsz s := by
  rw [tsz_eq s]
  have : ∀ l : List Ts, a ∈ l → tsz a ≤ (l.map tsz).sum := by
    intro l
    induction l with
    | nil => intro h; cases h
    | cons b r ih =>
      intro h
      simp only [List.map_cons, List.sum_cons]
      rcases List.mem_cons.1 h with e | e
      · subst e; omega
      · have := ih e; omega
  have := this s.args h
  omega
theorem tdps_arg {s a : Ts} (h : a ∈ s.args) : tdp a < tdp s := by
  have := tdps_mem h
  rw [tdp_eq s]; omega
theorem tpres_take {l : List Ts} {j : Nat} (h : j < l.length) : tpres (l.take (j + 1)) = tpres (l.take j) ++ tpre l[j] := by
  rw [tpres_flat, tpres_flat, List.take_add_one, List.getElem?_eq_getElem h, List.map_append, List.flatten_append]
  show _ ++ (tpre l[j] ++ []) = _
  rw [List.append_nil]
theorem tpre_len (s : Ts) : (tpre s).length ≤ tsz s := by
  rw [(tpre_perm s).1]; exact tnm_len s
/-- The names are added to a row that the caller may grow. -/
theorem sets_fun (s : Ts) : ∀ (out : List ByteArray), tbig s ≤ 1000000 → tsz s ≤ 100 → tdp s ≤ 8 → out.length + tsz s ≤ 1000000 → ∀ σ, FunO G 34 [vts s] 9 1 (out.map fun s => [dstr s]) [] σ (RetV (ownS (out ++ tpre s)) σ) := by
  induction s using Ts.ind with
  | h s ih =>
  intro out hs h100 h8 hlen σ
  have hln := tbig_len s
  have hpl := tpre_len s
  have hpe := tpre_eq s
  have h0 : ¬ roomV s 100 8 < 0 := by have := roomV_ok h100 h8; omega
  refine funo_code Tryz.func34 k34 (by simp only [vts_eq]; rfl) fun hb hw => ?_
  unfold c34
  refine awp_mid [(1, ownS out), (2, .ptr σ.length 0)] (σ ++ [boxT s]) ?_ ?_
  · simp -dsimp -implicitDefEqProofs only [aw, slots0, V.copy, V.lend, V.lend1, V.cells, V.boxable, over, bldV, boundV, rowsOf, plains, V.plain, Nat.reduceLeDiff, cond_true, cond_false, implies_true, eq_self, ne_eq, reduceIte, reduceCtorEq, Nat.reduceBEq, Nat.reduceLT, Nat.reduceEqDiff, Nat.reduceAdd, Nat.reduceSub, Nat.reduceMul, vts_eq]
  refine awp_mid [(1, ownS out), (2, .ptr σ.length 0), (8, vbool false)] (σ ++ [boxT s]) ?_ ?_
  · simp -dsimp -implicitDefEqProofs only [aw, slots0, V.copy, V.lend, V.lend1, V.cells, V.boxable, over, bldV, boundV, rowsOf, plains, V.plain, Nat.reduceLeDiff, cond_true, cond_false, implies_true, eq_self, ne_eq, reduceIte, reduceCtorEq, Nat.reduceBEq, Nat.reduceLT, Nat.reduceEqDiff, Nat.reduceAdd, Nat.reduceSub, Nat.reduceMul]
    refine fun_ret (by simpa only [vts_eq] using room_fun s 100 8 hs (by omega) (by omega) (by omega) (by omega) _) ?_
    simp -dsimp -implicitDefEqProofs only [aw, slots0, V.copy, V.lend, V.lend1, V.cells, V.boxable, over, bldV, boundV, rowsOf, plains, V.plain, Nat.reduceLeDiff, cond_true, cond_false, implies_true, eq_self, ne_eq, reduceIte, reduceCtorEq, Nat.reduceBEq, Nat.reduceLT, Nat.reduceEqDiff, Nat.reduceAdd, Nat.reduceSub, Nat.reduceMul, decide_eq_false h0]
  obtain ⟨o1, ho1⟩ : ∃ o1, o1 = out ++ (if s.op = 6 then [s.name] else []) := ⟨_, rfl⟩
  have hl1 : o1.length ≤ out.length + 1 := by rw [ho1]; split <;> simp
  refine awp_midR (fun ρ' σ' => ∃ l : Slots, (l = [] ∨ l = [(12, vbool false)]) ∧ ρ' = (1, ownS o1) :: (2, .ptr σ.length 0) :: l ∧ σ' = σ ++ [boxT s]) ?_ ?_
  · by_cases o6 : s.op = 6
    · rw [if_pos o6] at ho1
      simp -dsimp -implicitDefEqProofs only [aw, slots0, V.copy, V.lend, V.lend1, V.cells, V.boxable, over, bldV, boundV, rowsOf, plains, V.plain, Nat.reduceLeDiff, cond_true, cond_false, implies_true, eq_self, ne_eq, reduceIte, reduceCtorEq, Nat.reduceBEq, Nat.reduceLT, Nat.reduceEqDiff, Nat.reduceAdd, Nat.reduceSub, Nat.reduceMul, decide_eq_true o6]
      refine onT_intro (by first | omega | (simp only [List.length_map]; omega)) ?_
      simp -dsimp -implicitDefEqProofs only [aw, slots0, V.copy, V.lend, V.lend1, V.cells, V.boxable, over, bldV, boundV, rowsOf, plains, V.plain, Nat.reduceLeDiff, cond_true, cond_false, implies_true, eq_self, ne_eq, reduceIte, reduceCtorEq, Nat.reduceBEq, Nat.reduceLT, Nat.reduceEqDiff, Nat.reduceAdd, Nat.reduceSub, Nat.reduceMul]
      first | exact ⟨[], .inl rfl, by simp [ho1], rfl⟩ | (simp [ho1]; done) | (trace_state; fail)
    · rw [if_neg o6, List.append_nil] at ho1
      simp -dsimp -implicitDefEqProofs only [aw, slots0, V.copy, V.lend, V.lend1, V.cells, V.boxable, over, bldV, boundV, rowsOf, plains, V.plain, Nat.reduceLeDiff, cond_true, cond_false, implies_true, eq_self, ne_eq, reduceIte, reduceCtorEq, Nat.reduceBEq, Nat.reduceLT, Nat.reduceEqDiff, Nat.reduceAdd, Nat.reduceSub, Nat.reduceMul, decide_eq_false o6]
      rw [ho1]
      first | exact ⟨_, .inr rfl, rfl, rfl⟩ | (simp; done) | (trace_state; fail)
  rintro ρ1 σ1 ⟨l, rfl | rfl, rfl, rfl⟩
  all_goals
    simp -dsimp -implicitDefEqProofs only [aw, slots0, V.copy, V.lend, V.lend1, V.cells, V.boxable, over, bldV, boundV, rowsOf, plains, V.plain, Nat.reduceLeDiff, cond_true, cond_false, implies_true, eq_self, ne_eq, reduceIte, reduceCtorEq, Nat.reduceBEq, Nat.reduceLT, Nat.reduceEqDiff, Nat.reduceAdd, Nat.reduceSub, Nat.reduceMul]
    refine awp_forK [1, 2, 5] (R := fun (j : Nat) ρ σ' => ρ = [(1, ownS (o1 ++ tpres (s.args.take j))), (2, .ptr σ.length 0), (5, vint .i64 j)] ∧ σ' = σ ++ [boxT s]) s.args.length ⟨by simp [tpres]; rfl, rfl⟩ ?_ _
    rintro j ρ' σ' hj ⟨rfl, rfl⟩
    by_cases hlt : j < s.args.length
    · have ha := List.getElem_mem hlt
      have ht := tpres_take hlt
      have h5 : tsz s = 1 + szs s.args := tsz_eq s
      have hpp : (tpres (s.args.take j)).length + tsz s.args[j] ≤ tsz s - 1 := by
        have h1 : ∀ l : List Ts, (tpres l).length ≤ szs l := by
          intro l
          induction l with
          | nil => exact Nat.zero_le _
          | cons a r ihr =>
            have := tpre_len a
            simp only [tpres, List.length_append, szs, List.map_cons, List.sum_cons] at *
            omega
        have h2 := h1 (s.args.take j)
        have h3 := szs_take hlt
        have h4 := szs_le s.args (j + 1)
        omega
      simp -dsimp -implicitDefEqProofs only [aw, slots0, V.copy, V.lend, V.lend1, V.cells, V.boxable, over, bldV, boundV, rowsOf, plains, V.plain, Nat.reduceLeDiff, cond_true, cond_false, implies_true, eq_self, ne_eq, reduceIte, reduceCtorEq, Nat.reduceBEq, Nat.reduceLT, Nat.reduceEqDiff, Nat.reduceAdd, Nat.reduceSub, Nat.reduceMul, Int.ofNat_lt, hlt, decide_true, List.getElem?_eq_getElem hlt, dts_eq s.args[j]]
      refine funo_ret (by simpa only [vts_eq] using ih s.args[j] ha (o1 ++ tpres (s.args.take j)) (by have := tbig_arg ha; omega) (by have := tszs_arg ha; omega) (by have := tdps_arg ha; omega) (by rw [List.length_append]; omega) _) ?_
      simp -dsimp -implicitDefEqProofs only [aw, slots0, V.copy, V.lend, V.lend1, V.cells, V.boxable, over, bldV, boundV, rowsOf, plains, V.plain, Nat.reduceLeDiff, cond_true, cond_false, implies_true, eq_self, ne_eq, reduceIte, reduceCtorEq, Nat.reduceBEq, Nat.reduceLT, Nat.reduceEqDiff, Nat.reduceAdd, Nat.reduceSub, Nat.reduceMul, wrap_nat hlt (show s.args.length ≤ 9223372036854775807 by omega)]
      refine ⟨hlt, Nxt.same (by simp) (boxesBelow_app hb rfl) (by simp [slotsBelow, V.under]) ⟨?_, rfl⟩⟩
      rw [ht, ← List.append_assoc]
    · simp -dsimp -implicitDefEqProofs only [aw, slots0, V.copy, V.lend, V.lend1, V.cells, V.boxable, over, bldV, boundV, rowsOf, plains, V.plain, Nat.reduceLeDiff, cond_true, cond_false, implies_true, eq_self, ne_eq, reduceIte, reduceCtorEq, Nat.reduceBEq, Nat.reduceLT, Nat.reduceEqDiff, Nat.reduceAdd, Nat.reduceSub, Nat.reduceMul, Int.ofNat_lt, hlt, decide_false]
      rw [List.take_of_length_le (show s.args.length ≤ j by omega)]
      have e : o1 ++ tpres s.args = out ++ tpre s := by rw [hpe, ho1, List.append_assoc]
      exact fin_ret (v := ownS (out ++ tpre s)) hb (by rw [← e]; rfl) rfl List.take_left ⟨rfl, rfl⟩
theorem sets_nil (s : Ts) (hs : tbig s ≤ 1000000) (h1 : tsz s ≤ 100) (h2 : tdp s ≤ 8) (σ : List (List V)) : Fun G 34 [vts s, .nil] σ (RetV (.d (dstrs (tpre s))) σ) :=
  fun_lend (fun_of_funo_nil (by simpa using sets_fun s [] hs h1 h2 (by simp; omega) σ))
end Go.Proofs.YtbhippphcmkjnaaGreatDoor
