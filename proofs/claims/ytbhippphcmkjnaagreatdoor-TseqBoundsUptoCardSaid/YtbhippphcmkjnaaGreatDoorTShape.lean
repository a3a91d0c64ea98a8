/-
  tseq: zero, shape, written.
-/
import Derived.Test.YtbhippphcmkjnaaGreatDoorTNames
set_option linter.unusedVariables false
set_option linter.unusedSimpArgs false
namespace Go.Proofs.YtbhippphcmkjnaaGreatDoor
open Go.RowKit

theorem awp_midR {C : Cx} {n0 : Nat} {a b : Cd} {ρ : Slots} {σ : List (List V)} {Q : APost} {t : Tag Q} (R : Slots → List (List V) → Prop) (h1 : awpT C n0 a ρ σ (andThen R Q) .mk) (h2 : ∀ ρ' σ', R ρ' σ' → awpT C n0 b ρ' σ' Q .mk) : awpT C n0 (.seq a b) ρ σ Q t := by
  rw [w_seq]
  refine awp_mono (fun e ρ' σ' h => ?_) h1
  cases e with
  | normal => exact h2 _ _ h
  | _ => exact h
/-- What holds between two pieces of code; simp leaves it alone. -/
def Mid (R : Slots → List (List V) → Prop) (ρ : Slots) (σ : List (List V)) (_ : Tag R) : Prop := R ρ σ
theorem Mid.mk {R : Slots → List (List V) → Prop} {ρ : Slots} {σ : List (List V)} (h : R ρ σ) : Mid R ρ σ .mk := h
theorem awp_midT {C : Cx} {n0 : Nat} {a b : Cd} {ρ : Slots} {σ : List (List V)} {Q : APost} {t : Tag Q} (R : Slots → List (List V) → Prop) (h1 : awpT C n0 a ρ σ (andThen (fun ρ σ => Mid R ρ σ .mk) Q) .mk) (h2 : ∀ ρ' σ', R ρ' σ' → awpT C n0 b ρ' σ' Q .mk) : awpT C n0 (.seq a b) ρ σ Q t :=
  awp_midR _ h1 fun ρ' σ' h => h2 ρ' σ' h
theorem awp_mid {C : Cx} {n0 : Nat} {a b : Cd} {ρ : Slots} {σ : List (List V)} {Q : APost} {t : Tag Q} (ρ1 : Slots) (σ1 : List (List V)) (h1 : awpT C n0 a ρ σ (fun e ρ' σ' => e = .normal ∧ ρ' = ρ1 ∧ σ' = σ1) .mk) (h2 : awpT C n0 b ρ1 σ1 Q .mk) : awpT C n0 (.seq a b) ρ σ Q t := by
  rw [w_seq]
  refine awp_mono (fun e ρ' σ' h => ?_) h1
  obtain ⟨rfl, rfl, rfl⟩ := h
  exact h2
def zeroB (e : Ex) : Bool := decide (e.op = 0) && (decide (e.num = 0) && (decide (e.name = ⟨#[]⟩) && decide (e.args.length = 0)))
theorem zero_fun (e : Ex) (σ : List (List V)) : Fun G 68 [vex e] σ (RetV (vbool (zeroB e)) σ) := by
  refine fun_code Tryz.func68 k68 (by simp only [vex_eq]; rfl) fun hb hw => ?_
  unfold c68 zeroB
  simp -dsimp -implicitDefEqProofs only [aw, slots0, V.copy, V.lend, V.lend1, V.cells, V.boxable, over, bldV, boundV, rowsOf, plains, V.plain, Nat.reduceLeDiff, cond_true, cond_false, implies_true, eq_self, ne_eq, reduceIte, reduceCtorEq, Nat.reduceBEq, Nat.reduceLT, Nat.reduceEqDiff, Nat.reduceAdd, Nat.reduceSub, Nat.reduceMul, vex_eq]
  refine iteT_intro (fun h1 => ?_) (fun h1 => ?_)
  · simp -dsimp -implicitDefEqProofs only [aw, slots0, V.copy, V.lend, V.lend1, V.cells, V.boxable, over, bldV, boundV, rowsOf, plains, V.plain, Nat.reduceLeDiff, cond_true, cond_false, implies_true, eq_self, ne_eq, reduceIte, reduceCtorEq, Nat.reduceBEq, Nat.reduceLT, Nat.reduceEqDiff, Nat.reduceAdd, Nat.reduceSub, Nat.reduceMul]
    refine iteT_intro (fun h2 => ?_) (fun h2 => ?_)
    · simp -dsimp -implicitDefEqProofs only [aw, slots0, V.copy, V.lend, V.lend1, V.cells, V.boxable, over, bldV, boundV, rowsOf, plains, V.plain, Nat.reduceLeDiff, cond_true, cond_false, implies_true, eq_self, ne_eq, reduceIte, reduceCtorEq, Nat.reduceBEq, Nat.reduceLT, Nat.reduceEqDiff, Nat.reduceAdd, Nat.reduceSub, Nat.reduceMul]
      refine iteT_intro (fun h3 => ?_) (fun h3 => ?_)
      · simp -dsimp -implicitDefEqProofs only [aw, slots0, V.copy, V.lend, V.lend1, V.cells, V.boxable, over, bldV, boundV, rowsOf, plains, V.plain, Nat.reduceLeDiff, cond_true, cond_false, implies_true, eq_self, ne_eq, reduceIte, reduceCtorEq, Nat.reduceBEq, Nat.reduceLT, Nat.reduceEqDiff, Nat.reduceAdd, Nat.reduceSub, Nat.reduceMul]
        exact fin_ret hb rfl rfl List.take_left ⟨by rw [h1, h2, h3]; simp; rfl, rfl⟩
      · simp -dsimp -implicitDefEqProofs only [aw, slots0, V.copy, V.lend, V.lend1, V.cells, V.boxable, over, bldV, boundV, rowsOf, plains, V.plain, Nat.reduceLeDiff, cond_true, cond_false, implies_true, eq_self, ne_eq, reduceIte, reduceCtorEq, Nat.reduceBEq, Nat.reduceLT, Nat.reduceEqDiff, Nat.reduceAdd, Nat.reduceSub, Nat.reduceMul]
        exact fin_ret hb rfl rfl List.take_left ⟨by rw [h1, h2, h3]; simp; rfl, rfl⟩
    · simp -dsimp -implicitDefEqProofs only [aw, slots0, V.copy, V.lend, V.lend1, V.cells, V.boxable, over, bldV, boundV, rowsOf, plains, V.plain, Nat.reduceLeDiff, cond_true, cond_false, implies_true, eq_self, ne_eq, reduceIte, reduceCtorEq, Nat.reduceBEq, Nat.reduceLT, Nat.reduceEqDiff, Nat.reduceAdd, Nat.reduceSub, Nat.reduceMul]
      exact fin_ret hb rfl rfl List.take_left ⟨by rw [h1, h2]; simp; rfl, rfl⟩
  · simp -dsimp -implicitDefEqProofs only [aw, slots0, V.copy, V.lend, V.lend1, V.cells, V.boxable, over, bldV, boundV, rowsOf, plains, V.plain, Nat.reduceLeDiff, cond_true, cond_false, implies_true, eq_self, ne_eq, reduceIte, reduceCtorEq, Nat.reduceBEq, Nat.reduceLT, Nat.reduceEqDiff, Nat.reduceAdd, Nat.reduceSub, Nat.reduceMul]
    exact fin_ret hb rfl rfl List.take_left ⟨by rw [h1]; simp; rfl, rfl⟩
def writtenB (o : Int) : Bool := decide (o = 1) || (decide (o = 6) || decide (o = 7))
theorem written_fun (o : Int) (σ : List (List V)) : Fun G 67 [.d (dint o)] σ (RetV (vbool (writtenB o)) σ) := by
  refine fun_code Tryz.func67 k67 rfl fun hb hw => ?_
  unfold c67 writtenB
  simp -dsimp -implicitDefEqProofs only [aw, slots0, V.copy, V.lend, V.lend1, V.cells, V.boxable, over, bldV, boundV, rowsOf, plains, V.plain, Nat.reduceLeDiff, cond_true, cond_false, implies_true, eq_self, ne_eq, reduceIte, reduceCtorEq, Nat.reduceBEq, Nat.reduceLT, Nat.reduceEqDiff, Nat.reduceAdd, Nat.reduceSub, Nat.reduceMul]
  refine iteT_intro (fun h1 => ?_) (fun h1 => ?_)
  · simp -dsimp -implicitDefEqProofs only [aw, slots0, V.copy, V.lend, V.lend1, V.cells, V.boxable, over, bldV, boundV, rowsOf, plains, V.plain, Nat.reduceLeDiff, cond_true, cond_false, implies_true, eq_self, ne_eq, reduceIte, reduceCtorEq, Nat.reduceBEq, Nat.reduceLT, Nat.reduceEqDiff, Nat.reduceAdd, Nat.reduceSub, Nat.reduceMul]
    refine iteT_intro (fun h2 => ?_) (fun h2 => ?_)
    · simp -dsimp -implicitDefEqProofs only [aw, slots0, V.copy, V.lend, V.lend1, V.cells, V.boxable, over, bldV, boundV, rowsOf, plains, V.plain, Nat.reduceLeDiff, cond_true, cond_false, implies_true, eq_self, ne_eq, reduceIte, reduceCtorEq, Nat.reduceBEq, Nat.reduceLT, Nat.reduceEqDiff, Nat.reduceAdd, Nat.reduceSub, Nat.reduceMul]
      exact fin_ret hb rfl rfl List.take_length ⟨by simp_all; rfl, rfl⟩
    · simp -dsimp -implicitDefEqProofs only [aw, slots0, V.copy, V.lend, V.lend1, V.cells, V.boxable, over, bldV, boundV, rowsOf, plains, V.plain, Nat.reduceLeDiff, cond_true, cond_false, implies_true, eq_self, ne_eq, reduceIte, reduceCtorEq, Nat.reduceBEq, Nat.reduceLT, Nat.reduceEqDiff, Nat.reduceAdd, Nat.reduceSub, Nat.reduceMul]
      exact fin_ret hb rfl rfl List.take_length ⟨by simp_all; rfl, rfl⟩
  · simp -dsimp -implicitDefEqProofs only [aw, slots0, V.copy, V.lend, V.lend1, V.cells, V.boxable, over, bldV, boundV, rowsOf, plains, V.plain, Nat.reduceLeDiff, cond_true, cond_false, implies_true, eq_self, ne_eq, reduceIte, reduceCtorEq, Nat.reduceBEq, Nat.reduceLT, Nat.reduceEqDiff, Nat.reduceAdd, Nat.reduceSub, Nat.reduceMul]
    exact fin_ret hb rfl rfl List.take_length ⟨by simp_all; rfl, rfl⟩

/-- The members of a node, apart from its expression and name. -/
def plainB (s : Ts) : Bool := decide (s.lo = 0) && decide (s.hi = 0)
def withinB (s : Ts) : Bool := decide (s.lo ≤ s.hi) && decide (s.hi ≤ 16)
def shapeB (s : Ts) : Bool :=
  if s.op = 1 then decide (s.args.length = 0) && plainB s
  else if s.op = 2 then decide (s.args.length = 2) && (decide (0 ≤ s.lo) && withinB s)
  else if s.op = 3 then decide (s.args.length = 1) && (decide (1 ≤ s.lo) && withinB s)
  else if s.op = 4 ∨ s.op = 5 then decide (2 ≤ s.args.length ∧ s.args.length ≤ 8) && plainB s
  else if s.op = 6 ∨ s.op = 7 then decide (s.args.length = 1) && plainB s
  else false
abbrev boxT (s : Ts) : List V := [.d (dint s.op), .d (dint s.lo), .d (dint s.hi), .d (dint s.ex.op), .d (dint s.ex.num), .d (dstr s.ex.name), .d (.sl (s.ex.args.map dex)), .d (dstr s.name), .d (.sl (s.args.map dts))]
def ShapeR (s : Ts) (σ : List (List V)) (ρ' : Slots) (σ' : List (List V)) : Prop := ∃ (lo hi : Nat) (p : Bool) (l : Slots), (l = [] ∨ l = [(26, .d (dint 6)), (48, vbool true)] ∨ l = [(48, vbool true)]) ∧ shapeB s = (decide (lo ≤ s.args.length ∧ s.args.length ≤ hi) && p) ∧ ρ' = (1, .ptr σ.length 0) :: (3, vint .i64 lo) :: (4, vint .i64 hi) :: (5, vbool p) :: l ∧ σ' = σ ++ [boxT s]
theorem shape_fun (s : Ts) (hs : s.args.length ≤ 1000000) (σ : List (List V)) : Fun G 66 [vts s] σ (RetV (vbool (shapeB s)) σ) := by
  refine fun_code Tryz.func66 k66 (by simp only [vts_eq]; rfl) fun hb hw => ?_
  unfold c66
  refine awp_mid [(1, .ptr σ.length 0)] (σ ++ [boxT s]) ?_ ?_
  · simp -dsimp -implicitDefEqProofs only [aw, slots0, V.copy, V.lend, V.lend1, V.cells, V.boxable, over, bldV, boundV, rowsOf, plains, V.plain, Nat.reduceLeDiff, cond_true, cond_false, implies_true, eq_self, ne_eq, reduceIte, reduceCtorEq, Nat.reduceBEq, Nat.reduceLT, Nat.reduceEqDiff, Nat.reduceAdd, Nat.reduceSub, Nat.reduceMul, vts_eq]
  refine awp_mid [(1, .ptr σ.length 0), (3, vint .i64 1), (4, vint .i64 1), (5, vbool (plainB s))] (σ ++ [boxT s]) ?_ ?_
  · simp -dsimp -implicitDefEqProofs only [aw, slots0, V.copy, V.lend, V.lend1, V.cells, V.boxable, over, bldV, boundV, rowsOf, plains, V.plain, Nat.reduceLeDiff, cond_true, cond_false, implies_true, eq_self, ne_eq, reduceIte, reduceCtorEq, Nat.reduceBEq, Nat.reduceLT, Nat.reduceEqDiff, Nat.reduceAdd, Nat.reduceSub, Nat.reduceMul]
    refine iteT_intro (fun h1 => ?_) (fun h1 => ?_)
    · simp -dsimp -implicitDefEqProofs only [aw, slots0, V.copy, V.lend, V.lend1, V.cells, V.boxable, over, bldV, boundV, rowsOf, plains, V.plain, Nat.reduceLeDiff, cond_true, cond_false, implies_true, eq_self, ne_eq, reduceIte, reduceCtorEq, Nat.reduceBEq, Nat.reduceLT, Nat.reduceEqDiff, Nat.reduceAdd, Nat.reduceSub, Nat.reduceMul]
      simp [plainB, h1]
    · simp -dsimp -implicitDefEqProofs only [aw, slots0, V.copy, V.lend, V.lend1, V.cells, V.boxable, over, bldV, boundV, rowsOf, plains, V.plain, Nat.reduceLeDiff, cond_true, cond_false, implies_true, eq_self, ne_eq, reduceIte, reduceCtorEq, Nat.reduceBEq, Nat.reduceLT, Nat.reduceEqDiff, Nat.reduceAdd, Nat.reduceSub, Nat.reduceMul]
      simp [plainB, h1]
  refine awp_mid [(1, .ptr σ.length 0), (3, vint .i64 1), (4, vint .i64 1), (5, vbool (plainB s)), (6, vbool (withinB s))] (σ ++ [boxT s]) ?_ ?_
  · simp -dsimp -implicitDefEqProofs only [aw, slots0, V.copy, V.lend, V.lend1, V.cells, V.boxable, over, bldV, boundV, rowsOf, plains, V.plain, Nat.reduceLeDiff, cond_true, cond_false, implies_true, eq_self, ne_eq, reduceIte, reduceCtorEq, Nat.reduceBEq, Nat.reduceLT, Nat.reduceEqDiff, Nat.reduceAdd, Nat.reduceSub, Nat.reduceMul]
    refine iteT_intro (fun h1 => ?_) (fun h1 => ?_)
    · simp -dsimp -implicitDefEqProofs only [aw, slots0, V.copy, V.lend, V.lend1, V.cells, V.boxable, over, bldV, boundV, rowsOf, plains, V.plain, Nat.reduceLeDiff, cond_true, cond_false, implies_true, eq_self, ne_eq, reduceIte, reduceCtorEq, Nat.reduceBEq, Nat.reduceLT, Nat.reduceEqDiff, Nat.reduceAdd, Nat.reduceSub, Nat.reduceMul]
      simp [withinB, h1]
    · simp -dsimp -implicitDefEqProofs only [aw, slots0, V.copy, V.lend, V.lend1, V.cells, V.boxable, over, bldV, boundV, rowsOf, plains, V.plain, Nat.reduceLeDiff, cond_true, cond_false, implies_true, eq_self, ne_eq, reduceIte, reduceCtorEq, Nat.reduceBEq, Nat.reduceLT, Nat.reduceEqDiff, Nat.reduceAdd, Nat.reduceSub, Nat.reduceMul]
      simp [withinB, h1]
  generalize hp : plainB s = pB
  generalize hq : withinB s = wB
  have out : ∀ (lo hi : Nat) (p : Bool) (l : Slots), (l = [] ∨ l = [(26, .d (dint 6)), (48, vbool true)] ∨ l = [(48, vbool true)]) → shapeB s = (decide (lo ≤ s.args.length ∧ s.args.length ≤ hi) && p) →
      awpT G σ.length (.seq
      (.ops [
        ⟨(some 51), .fa 8 (.t 1), none⟩,
        ⟨(some 52), .load 1 false (.t 51), none⟩,
        ⟨(some 53), .len false (.t 52), none⟩,
        ⟨(some 54), .mv (.t 3), none⟩,
        ⟨(some 55), .bin .geq (.t 53) (.t 54), none⟩,
        ⟨(some 56), .mv (.t 55), none⟩,
        ⟨(some 57), .fa 8 (.t 1), (some (56, true))⟩,
        ⟨(some 58), .load 1 false (.t 57), (some (56, true))⟩,
        ⟨(some 59), .len false (.t 58), (some (56, true))⟩,
        ⟨(some 60), .mv (.t 4), (some (56, true))⟩,
        ⟨(some 61), .bin .leq (.t 59) (.t 60), (some (56, true))⟩,
        ⟨(some 62), .pick (.t 56) (.t 61) (.k (.d (.lit (.bool false)))), none⟩,
        ⟨(some 63), .mv (.t 62), none⟩,
        ⟨(some 64), .mv (.t 5), (some (63, true))⟩,
        ⟨(some 65), .pick (.t 63) (.t 64) (.k (.d (.lit (.bool false)))), none⟩,
        ⟨(some 2), .mv (.t 65), none⟩] [2]) .ret) ((1, .ptr σ.length 0) :: (3, vint .i64 lo) :: (4, vint .i64 hi) :: (5, vbool p) :: l) (σ ++ [boxT s]) (fin σ.length rs66 (RetV (vbool (shapeB s)) σ)) .mk := by
    intro lo hi p l hl hsh
    rcases hl with rfl | rfl | rfl
    all_goals
      simp -dsimp -implicitDefEqProofs only [aw, slots0, V.copy, V.lend, V.lend1, V.cells, V.boxable, over, bldV, boundV, rowsOf, plains, V.plain, Nat.reduceLeDiff, cond_true, cond_false, implies_true, eq_self, ne_eq, reduceIte, reduceCtorEq, Nat.reduceBEq, Nat.reduceLT, Nat.reduceEqDiff, Nat.reduceAdd, Nat.reduceSub, Nat.reduceMul, Int.ofNat_le]
      refine iteT_intro (fun h1 => ?_) (fun h1 => ?_)
      · simp -dsimp -implicitDefEqProofs only [aw, slots0, V.copy, V.lend, V.lend1, V.cells, V.boxable, over, bldV, boundV, rowsOf, plains, V.plain, Nat.reduceLeDiff, cond_true, cond_false, implies_true, eq_self, ne_eq, reduceIte, reduceCtorEq, Nat.reduceBEq, Nat.reduceLT, Nat.reduceEqDiff, Nat.reduceAdd, Nat.reduceSub, Nat.reduceMul, Int.ofNat_le]
        refine iteT_intro (fun h2 => ?_) (fun h2 => ?_)
        · simp -dsimp -implicitDefEqProofs only [aw, slots0, V.copy, V.lend, V.lend1, V.cells, V.boxable, over, bldV, boundV, rowsOf, plains, V.plain, Nat.reduceLeDiff, cond_true, cond_false, implies_true, eq_self, ne_eq, reduceIte, reduceCtorEq, Nat.reduceBEq, Nat.reduceLT, Nat.reduceEqDiff, Nat.reduceAdd, Nat.reduceSub, Nat.reduceMul]
          exact fin_ret hb rfl rfl List.take_left ⟨by rw [hsh, Bool.decide_and, h1, h2]; simp; rfl, rfl⟩
        · simp -dsimp -implicitDefEqProofs only [aw, slots0, V.copy, V.lend, V.lend1, V.cells, V.boxable, over, bldV, boundV, rowsOf, plains, V.plain, Nat.reduceLeDiff, cond_true, cond_false, implies_true, eq_self, ne_eq, reduceIte, reduceCtorEq, Nat.reduceBEq, Nat.reduceLT, Nat.reduceEqDiff, Nat.reduceAdd, Nat.reduceSub, Nat.reduceMul]
          exact fin_ret hb rfl rfl List.take_left ⟨by rw [hsh, Bool.decide_and, h1, h2]; simp; rfl, rfl⟩
      · simp -dsimp -implicitDefEqProofs only [aw, slots0, V.copy, V.lend, V.lend1, V.cells, V.boxable, over, bldV, boundV, rowsOf, plains, V.plain, Nat.reduceLeDiff, cond_true, cond_false, implies_true, eq_self, ne_eq, reduceIte, reduceCtorEq, Nat.reduceBEq, Nat.reduceLT, Nat.reduceEqDiff, Nat.reduceAdd, Nat.reduceSub, Nat.reduceMul]
        exact fin_ret hb rfl rfl List.take_left ⟨by rw [hsh, Bool.decide_and, h1]; simp; rfl, rfl⟩
  refine awp_midR (ShapeR s σ) ?_ (fun ρ' σ' ⟨lo, hi, p, l, h0, h1, h2, h3⟩ => by subst h2; subst h3; exact out lo hi p l h0 h1)
  have len1 : ∀ n : Nat, decide (s.args.length = n) = decide (n ≤ s.args.length ∧ s.args.length ≤ n) := fun n => by congr 1; apply propext; omega
  have hsh : shapeB s = shapeB s := rfl
  conv at hsh => rhs; unfold shapeB
  rw [hp, hq] at hsh
  by_cases o1 : s.op = 1
  · simp -dsimp -implicitDefEqProofs only [aw, slots0, V.copy, V.lend, V.lend1, V.cells, V.boxable, over, bldV, boundV, rowsOf, plains, V.plain, Nat.reduceLeDiff, cond_true, cond_false, implies_true, eq_self, ne_eq, reduceIte, reduceCtorEq, Nat.reduceBEq, Nat.reduceLT, Nat.reduceEqDiff, Nat.reduceAdd, Nat.reduceSub, Nat.reduceMul, o1, Int.reduceEq, decide_true, decide_false]
    exact ⟨0, 0, pB, [], .inl rfl, by rw [hsh, if_pos o1, len1], rfl, rfl⟩
  by_cases o2 : s.op = 2
  · simp -dsimp -implicitDefEqProofs only [aw, slots0, V.copy, V.lend, V.lend1, V.cells, V.boxable, over, bldV, boundV, rowsOf, plains, V.plain, Nat.reduceLeDiff, cond_true, cond_false, implies_true, eq_self, ne_eq, reduceIte, reduceCtorEq, Nat.reduceBEq, Nat.reduceLT, Nat.reduceEqDiff, Nat.reduceAdd, Nat.reduceSub, Nat.reduceMul, o2, Int.reduceEq, decide_true, decide_false]
    rw [if_neg o1, if_pos o2] at hsh
    refine iteT_intro (fun h1 => ?_) (fun h1 => ?_)
    · simp -dsimp -implicitDefEqProofs only [aw, slots0, V.copy, V.lend, V.lend1, V.cells, V.boxable, over, bldV, boundV, rowsOf, plains, V.plain, Nat.reduceLeDiff, cond_true, cond_false, implies_true, eq_self, ne_eq, reduceIte, reduceCtorEq, Nat.reduceBEq, Nat.reduceLT, Nat.reduceEqDiff, Nat.reduceAdd, Nat.reduceSub, Nat.reduceMul]
      exact ⟨2, 2, wB, [], .inl rfl, by rw [hsh, len1, h1]; rfl, rfl, rfl⟩
    · simp -dsimp -implicitDefEqProofs only [aw, slots0, V.copy, V.lend, V.lend1, V.cells, V.boxable, over, bldV, boundV, rowsOf, plains, V.plain, Nat.reduceLeDiff, cond_true, cond_false, implies_true, eq_self, ne_eq, reduceIte, reduceCtorEq, Nat.reduceBEq, Nat.reduceLT, Nat.reduceEqDiff, Nat.reduceAdd, Nat.reduceSub, Nat.reduceMul]
      exact ⟨2, 2, false, [], .inl rfl, by rw [hsh, len1, h1]; rfl, rfl, rfl⟩
  by_cases o3 : s.op = 3
  · simp -dsimp -implicitDefEqProofs only [aw, slots0, V.copy, V.lend, V.lend1, V.cells, V.boxable, over, bldV, boundV, rowsOf, plains, V.plain, Nat.reduceLeDiff, cond_true, cond_false, implies_true, eq_self, ne_eq, reduceIte, reduceCtorEq, Nat.reduceBEq, Nat.reduceLT, Nat.reduceEqDiff, Nat.reduceAdd, Nat.reduceSub, Nat.reduceMul, o3, Int.reduceEq, decide_true, decide_false]
    rw [if_neg o1, if_neg o2, if_pos o3] at hsh
    refine iteT_intro (fun h1 => ?_) (fun h1 => ?_)
    · simp -dsimp -implicitDefEqProofs only [aw, slots0, V.copy, V.lend, V.lend1, V.cells, V.boxable, over, bldV, boundV, rowsOf, plains, V.plain, Nat.reduceLeDiff, cond_true, cond_false, implies_true, eq_self, ne_eq, reduceIte, reduceCtorEq, Nat.reduceBEq, Nat.reduceLT, Nat.reduceEqDiff, Nat.reduceAdd, Nat.reduceSub, Nat.reduceMul]
      exact ⟨1, 1, wB, [], .inl rfl, by rw [hsh, len1, h1]; rfl, rfl, rfl⟩
    · simp -dsimp -implicitDefEqProofs only [aw, slots0, V.copy, V.lend, V.lend1, V.cells, V.boxable, over, bldV, boundV, rowsOf, plains, V.plain, Nat.reduceLeDiff, cond_true, cond_false, implies_true, eq_self, ne_eq, reduceIte, reduceCtorEq, Nat.reduceBEq, Nat.reduceLT, Nat.reduceEqDiff, Nat.reduceAdd, Nat.reduceSub, Nat.reduceMul]
      exact ⟨1, 1, false, [], .inl rfl, by rw [hsh, len1, h1]; rfl, rfl, rfl⟩
  rw [if_neg o1, if_neg o2, if_neg o3] at hsh
  by_cases o4 : s.op = 4
  · simp -dsimp -implicitDefEqProofs only [aw, slots0, V.copy, V.lend, V.lend1, V.cells, V.boxable, over, bldV, boundV, rowsOf, plains, V.plain, Nat.reduceLeDiff, cond_true, cond_false, implies_true, eq_self, ne_eq, reduceIte, reduceCtorEq, Nat.reduceBEq, Nat.reduceLT, Nat.reduceEqDiff, Nat.reduceAdd, Nat.reduceSub, Nat.reduceMul, o4, Int.reduceEq, decide_true, decide_false]
    exact ⟨2, 8, pB, [], .inl rfl, by rw [hsh, if_pos (.inl o4)], rfl, rfl⟩
  by_cases o5 : s.op = 5
  · simp -dsimp -implicitDefEqProofs only [aw, slots0, V.copy, V.lend, V.lend1, V.cells, V.boxable, over, bldV, boundV, rowsOf, plains, V.plain, Nat.reduceLeDiff, cond_true, cond_false, implies_true, eq_self, ne_eq, reduceIte, reduceCtorEq, Nat.reduceBEq, Nat.reduceLT, Nat.reduceEqDiff, Nat.reduceAdd, Nat.reduceSub, Nat.reduceMul, o5, Int.reduceEq, decide_true, decide_false]
    exact ⟨2, 8, pB, [], .inl rfl, by rw [hsh, if_pos (.inr o5)], rfl, rfl⟩
  rw [if_neg (by omega)] at hsh
  by_cases o6 : s.op = 6
  · simp -dsimp -implicitDefEqProofs only [aw, slots0, V.copy, V.lend, V.lend1, V.cells, V.boxable, over, bldV, boundV, rowsOf, plains, V.plain, Nat.reduceLeDiff, cond_true, cond_false, implies_true, eq_self, ne_eq, reduceIte, reduceCtorEq, Nat.reduceBEq, Nat.reduceLT, Nat.reduceEqDiff, Nat.reduceAdd, Nat.reduceSub, Nat.reduceMul, o6, Int.reduceEq, decide_true, decide_false]
    exact ⟨1, 1, pB, _, .inr (.inl rfl), by rw [hsh, if_pos (.inl o6), len1], rfl, rfl⟩
  by_cases o7 : s.op = 7
  · simp -dsimp -implicitDefEqProofs only [aw, slots0, V.copy, V.lend, V.lend1, V.cells, V.boxable, over, bldV, boundV, rowsOf, plains, V.plain, Nat.reduceLeDiff, cond_true, cond_false, implies_true, eq_self, ne_eq, reduceIte, reduceCtorEq, Nat.reduceBEq, Nat.reduceLT, Nat.reduceEqDiff, Nat.reduceAdd, Nat.reduceSub, Nat.reduceMul, o7, Int.reduceEq, decide_true, decide_false]
    exact ⟨1, 1, pB, _, .inr (.inr rfl), by rw [hsh, if_pos (.inr o7), len1], rfl, rfl⟩
  rw [if_neg (by omega)] at hsh
  simp -dsimp -implicitDefEqProofs only [aw, slots0, V.copy, V.lend, V.lend1, V.cells, V.boxable, over, bldV, boundV, rowsOf, plains, V.plain, Nat.reduceLeDiff, cond_true, cond_false, implies_true, eq_self, ne_eq, reduceIte, reduceCtorEq, Nat.reduceBEq, Nat.reduceLT, Nat.reduceEqDiff, Nat.reduceAdd, Nat.reduceSub, Nat.reduceMul, decide_eq_false o1, decide_eq_false o2, decide_eq_false o3, decide_eq_false o4, decide_eq_false o5, decide_eq_false o6, decide_eq_false o7]
  exact fin_ret hb rfl rfl List.take_left ⟨by rw [hsh]; rfl, rfl⟩
end Go.Proofs.YtbhippphcmkjnaaGreatDoor
