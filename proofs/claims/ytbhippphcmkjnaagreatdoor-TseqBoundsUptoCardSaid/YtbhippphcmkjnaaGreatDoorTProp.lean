/-
  Properties: ValidProp, the program's and the reference's.
-/
import Derived.Test.YtbhippphcmkjnaaGreatDoorTRef3
import Derived.Test.YtbhippphcmkjnaaGreatDoorTLaw
set_option linter.unusedVariables false
set_option linter.unusedSimpArgs false
namespace Go.Proofs.YtbhippphcmkjnaaGreatDoor
open Go.RowKit

/-- A property. -/
structure Pr where
  name : ByteArray
  plain : Bool
  over : Bool
  cond : Ts
  then_ : Ts
def dpr (p : Pr) : List D := dstr p.name :: .lit (.bool p.plain) :: .lit (.bool p.over) :: (dts p.cond ++ dts p.then_)
def vpr (p : Pr) : V := .agg ((dpr p).map V.d)
theorem vpr_eq (p : Pr) : vpr p = .agg [.d (dstr p.name), .d (.lit (.bool p.plain)), .d (.lit (.bool p.over)),
    .d (dint p.cond.op), .d (dint p.cond.lo), .d (dint p.cond.hi), .d (dint p.cond.ex.op), .d (dint p.cond.ex.num), .d (dstr p.cond.ex.name), .d (.sl (p.cond.ex.args.map dex)), .d (dstr p.cond.name), .d (.sl (p.cond.args.map dts)),
    .d (dint p.then_.op), .d (dint p.then_.lo), .d (dint p.then_.hi), .d (dint p.then_.ex.op), .d (dint p.then_.ex.num), .d (dstr p.then_.ex.name), .d (.sl (p.then_.ex.args.map dex)), .d (dstr p.then_.name), .d (.sl (p.then_.args.map dts))] := by
  unfold vpr dpr; rw [dts_eq, dts_eq]; rfl
def zT : Ts := .mk 0 0 0 (.mk 0 0 ⟨#[]⟩ []) ⟨#[]⟩ []
def emptyB (s : Ts) : Bool := ((((decide (s.op = 0) && decide (s.lo = 0)) && decide (s.hi = 0)) && zeroB s.ex) && decide (s.name = ⟨#[]⟩)) && decide ((s.args.length : Int) = 0)
theorem empty_same (s : Ts) : sameT s zT = emptyB s := by
  have hz : zeroB s.ex = true ↔ s.ex = .mk 0 0 ⟨#[]⟩ [] := by
    unfold zeroB
    simp only [Bool.and_eq_true, decide_eq_true_eq]
    cases h : s.ex with
    | mk o n m l => simp [Ex.op, Ex.num, Ex.name, Ex.args]
  rw [Bool.eq_iff_iff, sameT_iff]
  unfold emptyB
  simp only [Bool.and_eq_true, decide_eq_true_eq, hz]
  cases s with
  | mk o a b e n l =>
  simp only [zT, Ts.mk.injEq, Ts.op, Ts.lo, Ts.hi, Ts.ex, Ts.name, Ts.args]
  constructor
  · rintro ⟨h1, h2, h3, h4, h5, h6⟩; exact ⟨⟨⟨⟨⟨h1, h2⟩, h3⟩, h4⟩, h5⟩, by rw [h6]; rfl⟩
  · rintro ⟨⟨⟨⟨⟨h1, h2⟩, h3⟩, h4⟩, h5⟩, h6⟩; exact ⟨h1, h2, h3, h4, h5, List.eq_nil_of_length_eq_zero (by omega)⟩
theorem empty_fun (s : Ts) (σ : List (List V)) : Fun G 47 [vts s] σ (RetV (vbool (emptyB s)) σ) := by
  have hq : emptyB s = emptyB s := rfl
  conv at hq => rhs; unfold emptyB
  refine fun_code Tryz.func47 k47 (by simp only [vts_eq]; rfl) fun hb hw => ?_
  unfold c47
  have out : ∀ (b : Bool) (l : List (List V)), emptyB s = b → fin σ.length rs47 (RetV (vbool (emptyB s)) σ) .ret [(2, vbool b)] (σ ++ l) := fun b l h => by
    rw [h]; exact fin_ret hb rfl rfl List.take_left ⟨rfl, rfl⟩
  simp -dsimp -implicitDefEqProofs only [aw, slots0, V.copy, V.lend, V.lend1, V.cells, V.boxable, over, bldV, boundV, rowsOf, plains, V.plain, Nat.reduceLeDiff, cond_true, cond_false, implies_true, eq_self, ne_eq, reduceIte, reduceCtorEq, Nat.reduceBEq, Nat.reduceLT, Nat.reduceEqDiff, Nat.reduceAdd, Nat.reduceSub, Nat.reduceMul, vts_eq]
  refine iteT_intro (fun h1 => ?_) (fun h1 => ?_)
  · simp -dsimp -implicitDefEqProofs only [aw, slots0, V.copy, V.lend, V.lend1, V.cells, V.boxable, over, bldV, boundV, rowsOf, plains, V.plain, Nat.reduceLeDiff, cond_true, cond_false, implies_true, eq_self, ne_eq, reduceIte, reduceCtorEq, Nat.reduceBEq, Nat.reduceLT, Nat.reduceEqDiff, Nat.reduceAdd, Nat.reduceSub, Nat.reduceMul]
    refine iteT_intro (fun h2 => ?_) (fun h2 => ?_)
    · simp -dsimp -implicitDefEqProofs only [aw, slots0, V.copy, V.lend, V.lend1, V.cells, V.boxable, over, bldV, boundV, rowsOf, plains, V.plain, Nat.reduceLeDiff, cond_true, cond_false, implies_true, eq_self, ne_eq, reduceIte, reduceCtorEq, Nat.reduceBEq, Nat.reduceLT, Nat.reduceEqDiff, Nat.reduceAdd, Nat.reduceSub, Nat.reduceMul]
      refine iteT_intro (fun h3 => ?_) (fun h3 => ?_)
      · simp -dsimp -implicitDefEqProofs only [aw, slots0, V.copy, V.lend, V.lend1, V.cells, V.boxable, over, bldV, boundV, rowsOf, plains, V.plain, Nat.reduceLeDiff, cond_true, cond_false, implies_true, eq_self, ne_eq, reduceIte, reduceCtorEq, Nat.reduceBEq, Nat.reduceLT, Nat.reduceEqDiff, Nat.reduceAdd, Nat.reduceSub, Nat.reduceMul]
        refine fun_ret (by simpa only [vex_eq] using rzero_fun s.ex _) ?_
        cases hz : zeroB s.ex with
        | true =>
          simp -dsimp -implicitDefEqProofs only [aw, slots0, V.copy, V.lend, V.lend1, V.cells, V.boxable, over, bldV, boundV, rowsOf, plains, V.plain, Nat.reduceLeDiff, cond_true, cond_false, implies_true, eq_self, ne_eq, reduceIte, reduceCtorEq, Nat.reduceBEq, Nat.reduceLT, Nat.reduceEqDiff, Nat.reduceAdd, Nat.reduceSub, Nat.reduceMul]
          refine iteT_intro (fun h4 => ?_) (fun h4 => ?_)
          · simp -dsimp -implicitDefEqProofs only [aw, slots0, V.copy, V.lend, V.lend1, V.cells, V.boxable, over, bldV, boundV, rowsOf, plains, V.plain, Nat.reduceLeDiff, cond_true, cond_false, implies_true, eq_self, ne_eq, reduceIte, reduceCtorEq, Nat.reduceBEq, Nat.reduceLT, Nat.reduceEqDiff, Nat.reduceAdd, Nat.reduceSub, Nat.reduceMul]
            exact out _ _ (by rw [hq, h1, h2, h3, hz, h4]; simp)
          · simp -dsimp -implicitDefEqProofs only [aw, slots0, V.copy, V.lend, V.lend1, V.cells, V.boxable, over, bldV, boundV, rowsOf, plains, V.plain, Nat.reduceLeDiff, cond_true, cond_false, implies_true, eq_self, ne_eq, reduceIte, reduceCtorEq, Nat.reduceBEq, Nat.reduceLT, Nat.reduceEqDiff, Nat.reduceAdd, Nat.reduceSub, Nat.reduceMul]
            exact out _ _ (by rw [hq, h1, h2, h3, hz, h4]; simp)
        | false =>
          simp -dsimp -implicitDefEqProofs only [aw, slots0, V.copy, V.lend, V.lend1, V.cells, V.boxable, over, bldV, boundV, rowsOf, plains, V.plain, Nat.reduceLeDiff, cond_true, cond_false, implies_true, eq_self, ne_eq, reduceIte, reduceCtorEq, Nat.reduceBEq, Nat.reduceLT, Nat.reduceEqDiff, Nat.reduceAdd, Nat.reduceSub, Nat.reduceMul]
          exact out _ _ (by rw [hq, h1, h2, h3, hz]; simp)
      · simp -dsimp -implicitDefEqProofs only [aw, slots0, V.copy, V.lend, V.lend1, V.cells, V.boxable, over, bldV, boundV, rowsOf, plains, V.plain, Nat.reduceLeDiff, cond_true, cond_false, implies_true, eq_self, ne_eq, reduceIte, reduceCtorEq, Nat.reduceBEq, Nat.reduceLT, Nat.reduceEqDiff, Nat.reduceAdd, Nat.reduceSub, Nat.reduceMul]
        exact out _ _ (by rw [hq, h1, h2, h3]; simp)
    · simp -dsimp -implicitDefEqProofs only [aw, slots0, V.copy, V.lend, V.lend1, V.cells, V.boxable, over, bldV, boundV, rowsOf, plains, V.plain, Nat.reduceLeDiff, cond_true, cond_false, implies_true, eq_self, ne_eq, reduceIte, reduceCtorEq, Nat.reduceBEq, Nat.reduceLT, Nat.reduceEqDiff, Nat.reduceAdd, Nat.reduceSub, Nat.reduceMul]
      exact out _ _ (by rw [hq, h1, h2]; simp)
  · simp -dsimp -implicitDefEqProofs only [aw, slots0, V.copy, V.lend, V.lend1, V.cells, V.boxable, over, bldV, boundV, rowsOf, plains, V.plain, Nat.reduceLeDiff, cond_true, cond_false, implies_true, eq_self, ne_eq, reduceIte, reduceCtorEq, Nat.reduceBEq, Nat.reduceLT, Nat.reduceEqDiff, Nat.reduceAdd, Nat.reduceSub, Nat.reduceMul]
    exact out _ _ (by rw [hq, h1]; simp)
/-- The error of a property. -/
def validP (p : Pr) : Int :=
  if nameB p.name = false then 7
  else if p.plain = true ∧ (p.over = true ∨ emptyB p.cond = false) then 1
  else if p.plain = false ∧ validT p.cond ≠ 0 then validT p.cond
  else validT p.then_
set_option maxHeartbeats 1000000 in
theorem validprop_fun (p : Pr) (h1 : tbig p.cond ≤ 1000000) (h2 : tbig p.then_ ≤ 1000000) (σ : List (List V)) : Fun G 21 [vpr p] σ (RetV (.d (dint (validP p))) σ) := by
  have hq : validP p = validP p := rfl
  conv at hq => rhs; unfold validP
  refine fun_code Tryz.func21 k21 (by simp only [vpr_eq]; rfl) fun hb hw => ?_
  unfold c21
  have out : ∀ (n : Int) (l : List (List V)), validP p = n → fin σ.length rs21 (RetV (.d (dint (validP p))) σ) .ret [(2, .d (.lit (.int .i64 n)))] (σ ++ l) := fun n l h => by
    rw [h]; exact fin_ret hb rfl rfl List.take_left ⟨rfl, rfl⟩
  have hsame : ∀ σ, Fun G 45 [vts p.cond, vts zT] σ (RetV (vbool (emptyB p.cond)) σ) := fun σ => by rw [← empty_same]; exact tsame_fun p.cond zT h1 σ
  have hz : vts zT = .agg [.d (dint 0), .d (dint 0), .d (dint 0), .d (dint 0), .d (dint 0), .d (dstr ⟨#[]⟩), .d (.sl []), .d (dstr ⟨#[]⟩), .d (.sl [])] := by rw [vts_eq]; rfl
  simp only [hz] at hsame
  simp -dsimp -implicitDefEqProofs only [aw, slots0, V.copy, V.lend, V.lend1, V.cells, V.boxable, over, bldV, boundV, rowsOf, plains, V.plain, Nat.reduceLeDiff, cond_true, cond_false, implies_true, eq_self, ne_eq, reduceIte, reduceCtorEq, Nat.reduceBEq, Nat.reduceLT, Nat.reduceEqDiff, Nat.reduceAdd, Nat.reduceSub, Nat.reduceMul, vpr_eq]
  refine fun_ret (fun_isname8 p.name _) ?_
  cases hn : nameB p.name with
  | false =>
    rw [if_pos hn] at hq
    simp -dsimp -implicitDefEqProofs only [aw, slots0, V.copy, V.lend, V.lend1, V.cells, V.boxable, over, bldV, boundV, rowsOf, plains, V.plain, Nat.reduceLeDiff, cond_true, cond_false, implies_true, eq_self, ne_eq, reduceIte, reduceCtorEq, Nat.reduceBEq, Nat.reduceLT, Nat.reduceEqDiff, Nat.reduceAdd, Nat.reduceSub, Nat.reduceMul]
    exact out 7 _ hq
  | true =>
  rw [if_neg (by rw [hn]; simp)] at hq
  cases hp : p.plain with
  | true =>
    rw [hp] at hq
    cases ho : p.over with
    | true =>
      rw [if_pos ⟨rfl, .inl ho⟩] at hq
      simp -dsimp -implicitDefEqProofs only [aw, slots0, V.copy, V.lend, V.lend1, V.cells, V.boxable, over, bldV, boundV, rowsOf, plains, V.plain, Nat.reduceLeDiff, cond_true, cond_false, implies_true, eq_self, ne_eq, reduceIte, reduceCtorEq, Nat.reduceBEq, Nat.reduceLT, Nat.reduceEqDiff, Nat.reduceAdd, Nat.reduceSub, Nat.reduceMul]
      exact out 1 _ hq
    | false =>
      simp -dsimp -implicitDefEqProofs only [aw, slots0, V.copy, V.lend, V.lend1, V.cells, V.boxable, over, bldV, boundV, rowsOf, plains, V.plain, Nat.reduceLeDiff, cond_true, cond_false, implies_true, eq_self, ne_eq, reduceIte, reduceCtorEq, Nat.reduceBEq, Nat.reduceLT, Nat.reduceEqDiff, Nat.reduceAdd, Nat.reduceSub, Nat.reduceMul]
      refine fun_ret (by simpa only [vts_eq] using hsame _) ?_
      cases he : emptyB p.cond with
      | false =>
        rw [if_pos ⟨rfl, .inr he⟩] at hq
        simp -dsimp -implicitDefEqProofs only [aw, slots0, V.copy, V.lend, V.lend1, V.cells, V.boxable, over, bldV, boundV, rowsOf, plains, V.plain, Nat.reduceLeDiff, cond_true, cond_false, implies_true, eq_self, ne_eq, reduceIte, reduceCtorEq, Nat.reduceBEq, Nat.reduceLT, Nat.reduceEqDiff, Nat.reduceAdd, Nat.reduceSub, Nat.reduceMul]
        exact out 1 _ hq
      | true =>
        rw [if_neg (by rw [ho, he]; simp), if_neg (by simp)] at hq
        simp -dsimp -implicitDefEqProofs only [aw, slots0, V.copy, V.lend, V.lend1, V.cells, V.boxable, over, bldV, boundV, rowsOf, plains, V.plain, Nat.reduceLeDiff, cond_true, cond_false, implies_true, eq_self, ne_eq, reduceIte, reduceCtorEq, Nat.reduceBEq, Nat.reduceLT, Nat.reduceEqDiff, Nat.reduceAdd, Nat.reduceSub, Nat.reduceMul]
        refine fun_ret (by simpa only [vts_eq] using tvalid_fun p.then_ h2 _) ?_
        simp -dsimp -implicitDefEqProofs only [aw, slots0, V.copy, V.lend, V.lend1, V.cells, V.boxable, over, bldV, boundV, rowsOf, plains, V.plain, Nat.reduceLeDiff, cond_true, cond_false, implies_true, eq_self, ne_eq, reduceIte, reduceCtorEq, Nat.reduceBEq, Nat.reduceLT, Nat.reduceEqDiff, Nat.reduceAdd, Nat.reduceSub, Nat.reduceMul]
        exact out _ _ hq
  | false =>
    rw [if_neg (by rw [hp]; simp)] at hq
    simp -dsimp -implicitDefEqProofs only [aw, slots0, V.copy, V.lend, V.lend1, V.cells, V.boxable, over, bldV, boundV, rowsOf, plains, V.plain, Nat.reduceLeDiff, cond_true, cond_false, implies_true, eq_self, ne_eq, reduceIte, reduceCtorEq, Nat.reduceBEq, Nat.reduceLT, Nat.reduceEqDiff, Nat.reduceAdd, Nat.reduceSub, Nat.reduceMul]
    refine fun_ret (by simpa only [vts_eq] using tvalid_fun p.cond h1 _) ?_
    by_cases h0 : validT p.cond = 0
    · rw [if_neg (by simp [h0])] at hq
      simp -dsimp -implicitDefEqProofs only [aw, slots0, V.copy, V.lend, V.lend1, V.cells, V.boxable, over, bldV, boundV, rowsOf, plains, V.plain, Nat.reduceLeDiff, cond_true, cond_false, implies_true, eq_self, ne_eq, reduceIte, reduceCtorEq, Nat.reduceBEq, Nat.reduceLT, Nat.reduceEqDiff, Nat.reduceAdd, Nat.reduceSub, Nat.reduceMul, h0, Int.reduceEq, decide_true, decide_false]
      refine fun_ret (by simpa only [vts_eq] using tvalid_fun p.then_ h2 _) ?_
      simp -dsimp -implicitDefEqProofs only [aw, slots0, V.copy, V.lend, V.lend1, V.cells, V.boxable, over, bldV, boundV, rowsOf, plains, V.plain, Nat.reduceLeDiff, cond_true, cond_false, implies_true, eq_self, ne_eq, reduceIte, reduceCtorEq, Nat.reduceBEq, Nat.reduceLT, Nat.reduceEqDiff, Nat.reduceAdd, Nat.reduceSub, Nat.reduceMul]
      exact out _ _ hq
    · rw [if_pos ⟨hp, h0⟩] at hq
      simp -dsimp -implicitDefEqProofs only [aw, slots0, V.copy, V.lend, V.lend1, V.cells, V.boxable, over, bldV, boundV, rowsOf, plains, V.plain, Nat.reduceLeDiff, cond_true, cond_false, implies_true, eq_self, ne_eq, reduceIte, reduceCtorEq, Nat.reduceBEq, Nat.reduceLT, Nat.reduceEqDiff, Nat.reduceAdd, Nat.reduceSub, Nat.reduceMul, decide_eq_false h0]
      exact out _ _ hq
set_option maxHeartbeats 1000000 in
theorem rvalidprop_fun (p : Pr) (h1 : tbig p.cond ≤ 1000000) (h2 : tbig p.then_ ≤ 1000000) (σ : List (List V)) : Fun G 22 [vpr p] σ (RetV (.d (dint (validP p))) σ) := by
  have hq : validP p = validP p := rfl
  conv at hq => rhs; unfold validP
  refine fun_code Tryz.func22 k22 (by simp only [vpr_eq]; rfl) fun hb hw => ?_
  unfold c22
  have out : ∀ (n : Int) (l : List (List V)), validP p = n → fin σ.length rs22 (RetV (.d (dint (validP p))) σ) .ret [(2, .d (.lit (.int .i64 n)))] (σ ++ l) := fun n l h => by
    rw [h]; exact fin_ret hb rfl rfl List.take_left ⟨rfl, rfl⟩
  simp -dsimp -implicitDefEqProofs only [aw, slots0, V.copy, V.lend, V.lend1, V.cells, V.boxable, over, bldV, boundV, rowsOf, plains, V.plain, Nat.reduceLeDiff, cond_true, cond_false, implies_true, eq_self, ne_eq, reduceIte, reduceCtorEq, Nat.reduceBEq, Nat.reduceLT, Nat.reduceEqDiff, Nat.reduceAdd, Nat.reduceSub, Nat.reduceMul, vpr_eq]
  refine fun_ret (fun_risname p.name _) ?_
  cases hn : nameB p.name with
  | false =>
    rw [if_pos hn] at hq
    simp -dsimp -implicitDefEqProofs only [aw, slots0, V.copy, V.lend, V.lend1, V.cells, V.boxable, over, bldV, boundV, rowsOf, plains, V.plain, Nat.reduceLeDiff, cond_true, cond_false, implies_true, eq_self, ne_eq, reduceIte, reduceCtorEq, Nat.reduceBEq, Nat.reduceLT, Nat.reduceEqDiff, Nat.reduceAdd, Nat.reduceSub, Nat.reduceMul]
    exact out 7 _ hq
  | true =>
  rw [if_neg (by rw [hn]; simp)] at hq
  cases hp : p.plain with
  | true =>
    rw [hp] at hq
    cases ho : p.over with
    | true =>
      rw [if_pos ⟨rfl, .inl ho⟩] at hq
      simp -dsimp -implicitDefEqProofs only [aw, slots0, V.copy, V.lend, V.lend1, V.cells, V.boxable, over, bldV, boundV, rowsOf, plains, V.plain, Nat.reduceLeDiff, cond_true, cond_false, implies_true, eq_self, ne_eq, reduceIte, reduceCtorEq, Nat.reduceBEq, Nat.reduceLT, Nat.reduceEqDiff, Nat.reduceAdd, Nat.reduceSub, Nat.reduceMul]
      exact out 1 _ hq
    | false =>
      simp -dsimp -implicitDefEqProofs only [aw, slots0, V.copy, V.lend, V.lend1, V.cells, V.boxable, over, bldV, boundV, rowsOf, plains, V.plain, Nat.reduceLeDiff, cond_true, cond_false, implies_true, eq_self, ne_eq, reduceIte, reduceCtorEq, Nat.reduceBEq, Nat.reduceLT, Nat.reduceEqDiff, Nat.reduceAdd, Nat.reduceSub, Nat.reduceMul]
      refine fun_ret (by simpa only [vts_eq] using empty_fun p.cond _) ?_
      cases he : emptyB p.cond with
      | false =>
        rw [if_pos ⟨rfl, .inr he⟩] at hq
        simp -dsimp -implicitDefEqProofs only [aw, slots0, V.copy, V.lend, V.lend1, V.cells, V.boxable, over, bldV, boundV, rowsOf, plains, V.plain, Nat.reduceLeDiff, cond_true, cond_false, implies_true, eq_self, ne_eq, reduceIte, reduceCtorEq, Nat.reduceBEq, Nat.reduceLT, Nat.reduceEqDiff, Nat.reduceAdd, Nat.reduceSub, Nat.reduceMul]
        exact out 1 _ hq
      | true =>
        rw [if_neg (by rw [ho, he]; simp), if_neg (by simp)] at hq
        simp -dsimp -implicitDefEqProofs only [aw, slots0, V.copy, V.lend, V.lend1, V.cells, V.boxable, over, bldV, boundV, rowsOf, plains, V.plain, Nat.reduceLeDiff, cond_true, cond_false, implies_true, eq_self, ne_eq, reduceIte, reduceCtorEq, Nat.reduceBEq, Nat.reduceLT, Nat.reduceEqDiff, Nat.reduceAdd, Nat.reduceSub, Nat.reduceMul]
        refine fun_ret (by simpa only [vts_eq] using rvalid39_fun p.then_ h2 _) ?_
        simp -dsimp -implicitDefEqProofs only [aw, slots0, V.copy, V.lend, V.lend1, V.cells, V.boxable, over, bldV, boundV, rowsOf, plains, V.plain, Nat.reduceLeDiff, cond_true, cond_false, implies_true, eq_self, ne_eq, reduceIte, reduceCtorEq, Nat.reduceBEq, Nat.reduceLT, Nat.reduceEqDiff, Nat.reduceAdd, Nat.reduceSub, Nat.reduceMul]
        exact out _ _ hq
  | false =>
    rw [if_neg (by rw [hp]; simp)] at hq
    simp -dsimp -implicitDefEqProofs only [aw, slots0, V.copy, V.lend, V.lend1, V.cells, V.boxable, over, bldV, boundV, rowsOf, plains, V.plain, Nat.reduceLeDiff, cond_true, cond_false, implies_true, eq_self, ne_eq, reduceIte, reduceCtorEq, Nat.reduceBEq, Nat.reduceLT, Nat.reduceEqDiff, Nat.reduceAdd, Nat.reduceSub, Nat.reduceMul]
    refine fun_ret (by simpa only [vts_eq] using rvalid39_fun p.cond h1 _) ?_
    by_cases h0 : validT p.cond = 0
    · rw [if_neg (by simp [h0])] at hq
      simp -dsimp -implicitDefEqProofs only [aw, slots0, V.copy, V.lend, V.lend1, V.cells, V.boxable, over, bldV, boundV, rowsOf, plains, V.plain, Nat.reduceLeDiff, cond_true, cond_false, implies_true, eq_self, ne_eq, reduceIte, reduceCtorEq, Nat.reduceBEq, Nat.reduceLT, Nat.reduceEqDiff, Nat.reduceAdd, Nat.reduceSub, Nat.reduceMul, h0, Int.reduceEq, decide_true, decide_false]
      refine fun_ret (by simpa only [vts_eq] using rvalid39_fun p.then_ h2 _) ?_
      simp -dsimp -implicitDefEqProofs only [aw, slots0, V.copy, V.lend, V.lend1, V.cells, V.boxable, over, bldV, boundV, rowsOf, plains, V.plain, Nat.reduceLeDiff, cond_true, cond_false, implies_true, eq_self, ne_eq, reduceIte, reduceCtorEq, Nat.reduceBEq, Nat.reduceLT, Nat.reduceEqDiff, Nat.reduceAdd, Nat.reduceSub, Nat.reduceMul]
      exact out _ _ hq
    · rw [if_pos ⟨hp, h0⟩] at hq
      simp -dsimp -implicitDefEqProofs only [aw, slots0, V.copy, V.lend, V.lend1, V.cells, V.boxable, over, bldV, boundV, rowsOf, plains, V.plain, Nat.reduceLeDiff, cond_true, cond_false, implies_true, eq_self, ne_eq, reduceIte, reduceCtorEq, Nat.reduceBEq, Nat.reduceLT, Nat.reduceEqDiff, Nat.reduceAdd, Nat.reduceSub, Nat.reduceMul, decide_eq_false h0]
      exact out _ _ hq
end Go.Proofs.YtbhippphcmkjnaaGreatDoor
