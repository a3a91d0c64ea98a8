/-
  Same of sequences: the program's and the reference's.
-/
import Derived.Test.YtbhippphcmkjnaaGreatDoorTShape
import Derived.Test.YtbhippphcmkjnaaGreatDoorSame8
set_option linter.unusedVariables false
set_option linter.unusedSimpArgs false
namespace Go.Proofs.YtbhippphcmkjnaaGreatDoor
open Go.RowKit

mutual
def sameT : Ts → Ts → Bool
  | .mk o a b e s l, .mk o' a' b' e' s' l' => decide (o = o') && (decide (a = a') && (decide (b = b') && (decide (s = s') && (sameE e e' && sameTs l l'))))
def sameTs : List Ts → List Ts → Bool
  | [], [] => true
  | a :: r, b :: r' => sameT a b && sameTs r r'
  | _, _ => false
end
theorem sameTs_len : ∀ {l l' : List Ts}, l.length ≠ l'.length → sameTs l l' = false
  | [], [], h => absurd rfl h
  | a :: r, b :: r', h => by simp only [sameTs, sameTs_len (l := r) (l' := r') (by simpa using h), Bool.and_false]
  | [], _ :: _, _ => rfl
  | _ :: _, [], _ => rfl
theorem sameT_eq (a b : Ts) : sameT a b = (decide (a.op = b.op) && (decide (a.lo = b.lo) && (decide (a.hi = b.hi) && (decide (a.name = b.name) && (sameE a.ex b.ex && sameTs a.args b.args))))) := by
  cases a; cases b; rfl
theorem sameTs_step {l l' : List Ts} {j : Nat} (h : j < l.length) (h' : j < l'.length) : sameTs (l.drop j) (l'.drop j) = (sameT l[j] l'[j] && sameTs (l.drop (j + 1)) (l'.drop (j + 1))) := by
  rw [List.drop_eq_getElem_cons h, List.drop_eq_getElem_cons h']; rfl

theorem equalT_fun (l l' : List Ts) (F : FuncId) (hm : l.length ≤ 1000000) (h : ∀ i (hi : i < l.length) (hi' : i < l'.length) σ, Fun G F [vts l[i], vts l'[i]] σ (RetV (vbool (sameT l[i] l'[i])) σ)) (σ : List (List V)) :
    Fun G 61 [.d (.sl (l.map dts)), .d (.sl (l'.map dts)), .fn F []] σ (RetV (vbool (sameTs l l')) σ) := by
  refine fun_code Tryz.func61 k61 rfl fun hb hw => ?_
  unfold c61
  simp -dsimp -implicitDefEqProofs only [aw, slots0, V.copy, V.lend, V.lend1, V.cells, V.boxable, over, bldV, boundV, rowsOf, plains, V.plain, Nat.reduceLeDiff, cond_true, cond_false, implies_true, eq_self, ne_eq, reduceIte, reduceCtorEq, Nat.reduceBEq, Nat.reduceLT, Nat.reduceEqDiff, Nat.reduceAdd, Nat.reduceSub, Nat.reduceMul, Int.ofNat_inj]
  refine iteT_intro (fun hne => ?_) (fun hlen => ?_)
  · simp -dsimp -implicitDefEqProofs only [aw, slots0, V.copy, V.lend, V.lend1, V.cells, V.boxable, over, bldV, boundV, rowsOf, plains, V.plain, Nat.reduceLeDiff, cond_true, cond_false, implies_true, eq_self, ne_eq, reduceIte, reduceCtorEq, Nat.reduceBEq, Nat.reduceLT, Nat.reduceEqDiff, Nat.reduceAdd, Nat.reduceSub, Nat.reduceMul]
    exact fin_ret hb rfl rfl List.take_length ⟨by rw [sameTs_len (by simpa using hne)]; rfl, rfl⟩
  · have hlen : l.length = l'.length := by simpa using hlen
    simp -dsimp -implicitDefEqProofs only [aw, slots0, V.copy, V.lend, V.lend1, V.cells, V.boxable, over, bldV, boundV, rowsOf, plains, V.plain, Nat.reduceLeDiff, cond_true, cond_false, implies_true, eq_self, ne_eq, reduceIte, reduceCtorEq, Nat.reduceBEq, Nat.reduceLT, Nat.reduceEqDiff, Nat.reduceAdd, Nat.reduceSub, Nat.reduceMul]
    refine awp_forK [1, 2, 15, 16, 17] (R := fun (j : Nat) ρ σ' => ρ = [(1, .d (.sl (l'.map dts))), (2, .fn F []), (15, .d (.sl (l.map dts))), (16, vint .i64 l.length), (17, vint .i64 j)] ∧ σ' = σ ∧ sameTs l l' = sameTs (l.drop j) (l'.drop j)) l.length ⟨rfl, rfl, by simp⟩ ?_ _
    rintro j ρ' σ' hj ⟨rfl, rfl, hrec⟩
    by_cases hlt : j < l.length
    · have hlt' : j < l'.length := by omega
      simp -dsimp -implicitDefEqProofs only [aw, slots0, V.copy, V.lend, V.lend1, V.cells, V.boxable, over, bldV, boundV, rowsOf, plains, V.plain, Nat.reduceLeDiff, cond_true, cond_false, implies_true, eq_self, ne_eq, reduceIte, reduceCtorEq, Nat.reduceBEq, Nat.reduceLT, Nat.reduceEqDiff, Nat.reduceAdd, Nat.reduceSub, Nat.reduceMul, Int.ofNat_lt, hlt, decide_true, List.getElem?_eq_getElem hlt, List.getElem?_eq_getElem hlt', dts_eq]
      refine fun_ret (by simpa only [vts_eq] using h j hlt hlt' _) ?_
      rw [sameTs_step hlt hlt'] at hrec
      cases hs : sameT l[j] l'[j] with
      | false =>
        rw [hs, Bool.false_and] at hrec
        simp -dsimp -implicitDefEqProofs only [aw, slots0, V.copy, V.lend, V.lend1, V.cells, V.boxable, over, bldV, boundV, rowsOf, plains, V.plain, Nat.reduceLeDiff, cond_true, cond_false, implies_true, eq_self, ne_eq, reduceIte, reduceCtorEq, Nat.reduceBEq, Nat.reduceLT, Nat.reduceEqDiff, Nat.reduceAdd, Nat.reduceSub, Nat.reduceMul]
        exact fin_ret hb rfl rfl List.take_left ⟨by rw [hrec]; rfl, rfl⟩
      | true =>
        rw [hs, Bool.true_and] at hrec
        simp -dsimp -implicitDefEqProofs only [aw, slots0, V.copy, V.lend, V.lend1, V.cells, V.boxable, over, bldV, boundV, rowsOf, plains, V.plain, Nat.reduceLeDiff, cond_true, cond_false, implies_true, eq_self, ne_eq, reduceIte, reduceCtorEq, Nat.reduceBEq, Nat.reduceLT, Nat.reduceEqDiff, Nat.reduceAdd, Nat.reduceSub, Nat.reduceMul, wrap_nat hlt (show l.length ≤ 9223372036854775807 by omega)]
        exact ⟨hlt, Nxt.drop (Nat.le_refl _) hb rfl ⟨rfl, rfl, hrec⟩⟩
    · simp -dsimp -implicitDefEqProofs only [aw, slots0, V.copy, V.lend, V.lend1, V.cells, V.boxable, over, bldV, boundV, rowsOf, plains, V.plain, Nat.reduceLeDiff, cond_true, cond_false, implies_true, eq_self, ne_eq, reduceIte, reduceCtorEq, Nat.reduceBEq, Nat.reduceLT, Nat.reduceEqDiff, Nat.reduceAdd, Nat.reduceSub, Nat.reduceMul, Int.ofNat_lt, hlt, decide_false]
      exact fin_ret hb rfl rfl List.take_length ⟨by rw [hrec, List.drop_of_length_le (by omega), List.drop_of_length_le (by omega)]; rfl, rfl⟩

theorem tsame_fun (a : Ts) : ∀ (b : Ts), tbig a ≤ 1000000 → ∀ (σ : List (List V)), Fun G 45 [vts a, vts b] σ (RetV (vbool (sameT a b)) σ) := by
  induction a using Ts.ind with
  | h a ih =>
  intro b hz σ
  have hln := tbig_len a
  have hE := fun σ' => equalT_fun a.args b.args 45 (by omega) (fun i hi hi' σ => ih _ (List.getElem_mem hi) _ (by have := tbig_arg (List.getElem_mem hi); omega) σ) σ'
  refine fun_code Tryz.func45 k45 (by simp only [vts_eq]; rfl) fun hb hw => ?_
  have hq := sameT_eq a b
  have out : ∀ (p : Bool) (l : List (List V)), sameT a b = p → fin σ.length rs45 (RetV (vbool (sameT a b)) σ) .ret [(4, .d (.lit (.bool p)))] (σ ++ l) := fun p l h => by
    rw [h]; exact fin_ret hb rfl rfl List.take_left ⟨rfl, rfl⟩
  unfold c45
  simp -dsimp -implicitDefEqProofs only [aw, slots0, V.copy, V.lend, V.lend1, V.cells, V.boxable, over, bldV, boundV, rowsOf, plains, V.plain, Nat.reduceLeDiff, cond_true, cond_false, implies_true, eq_self, ne_eq, reduceIte, reduceCtorEq, Nat.reduceBEq, Nat.reduceLT, Nat.reduceEqDiff, Nat.reduceAdd, Nat.reduceSub, Nat.reduceMul, vts_eq]
  cases h1 : decide (a.op = b.op) with
  | false => rw [h1] at hq; simp -dsimp -implicitDefEqProofs only [aw, slots0, V.copy, V.lend, V.lend1, V.cells, V.boxable, over, bldV, boundV, rowsOf, plains, V.plain, Nat.reduceLeDiff, cond_true, cond_false, implies_true, eq_self, ne_eq, reduceIte, reduceCtorEq, Nat.reduceBEq, Nat.reduceLT, Nat.reduceEqDiff, Nat.reduceAdd, Nat.reduceSub, Nat.reduceMul]; exact out _ _ hq
  | true =>
  rw [h1, Bool.true_and] at hq
  simp -dsimp -implicitDefEqProofs only [aw, slots0, V.copy, V.lend, V.lend1, V.cells, V.boxable, over, bldV, boundV, rowsOf, plains, V.plain, Nat.reduceLeDiff, cond_true, cond_false, implies_true, eq_self, ne_eq, reduceIte, reduceCtorEq, Nat.reduceBEq, Nat.reduceLT, Nat.reduceEqDiff, Nat.reduceAdd, Nat.reduceSub, Nat.reduceMul]
  cases h2 : decide (a.lo = b.lo) with
  | false => rw [h2] at hq; simp -dsimp -implicitDefEqProofs only [aw, slots0, V.copy, V.lend, V.lend1, V.cells, V.boxable, over, bldV, boundV, rowsOf, plains, V.plain, Nat.reduceLeDiff, cond_true, cond_false, implies_true, eq_self, ne_eq, reduceIte, reduceCtorEq, Nat.reduceBEq, Nat.reduceLT, Nat.reduceEqDiff, Nat.reduceAdd, Nat.reduceSub, Nat.reduceMul]; exact out _ _ hq
  | true =>
  rw [h2, Bool.true_and] at hq
  simp -dsimp -implicitDefEqProofs only [aw, slots0, V.copy, V.lend, V.lend1, V.cells, V.boxable, over, bldV, boundV, rowsOf, plains, V.plain, Nat.reduceLeDiff, cond_true, cond_false, implies_true, eq_self, ne_eq, reduceIte, reduceCtorEq, Nat.reduceBEq, Nat.reduceLT, Nat.reduceEqDiff, Nat.reduceAdd, Nat.reduceSub, Nat.reduceMul]
  cases h3 : decide (a.hi = b.hi) with
  | false => rw [h3] at hq; simp -dsimp -implicitDefEqProofs only [aw, slots0, V.copy, V.lend, V.lend1, V.cells, V.boxable, over, bldV, boundV, rowsOf, plains, V.plain, Nat.reduceLeDiff, cond_true, cond_false, implies_true, eq_self, ne_eq, reduceIte, reduceCtorEq, Nat.reduceBEq, Nat.reduceLT, Nat.reduceEqDiff, Nat.reduceAdd, Nat.reduceSub, Nat.reduceMul]; exact out _ _ hq
  | true =>
  rw [h3, Bool.true_and] at hq
  simp -dsimp -implicitDefEqProofs only [aw, slots0, V.copy, V.lend, V.lend1, V.cells, V.boxable, over, bldV, boundV, rowsOf, plains, V.plain, Nat.reduceLeDiff, cond_true, cond_false, implies_true, eq_self, ne_eq, reduceIte, reduceCtorEq, Nat.reduceBEq, Nat.reduceLT, Nat.reduceEqDiff, Nat.reduceAdd, Nat.reduceSub, Nat.reduceMul]
  cases h4 : decide (a.name = b.name) with
  | false => rw [h4] at hq; simp -dsimp -implicitDefEqProofs only [aw, slots0, V.copy, V.lend, V.lend1, V.cells, V.boxable, over, bldV, boundV, rowsOf, plains, V.plain, Nat.reduceLeDiff, cond_true, cond_false, implies_true, eq_self, ne_eq, reduceIte, reduceCtorEq, Nat.reduceBEq, Nat.reduceLT, Nat.reduceEqDiff, Nat.reduceAdd, Nat.reduceSub, Nat.reduceMul]; exact out _ _ hq
  | true =>
  rw [h4, Bool.true_and] at hq
  simp -dsimp -implicitDefEqProofs only [aw, slots0, V.copy, V.lend, V.lend1, V.cells, V.boxable, over, bldV, boundV, rowsOf, plains, V.plain, Nat.reduceLeDiff, cond_true, cond_false, implies_true, eq_self, ne_eq, reduceIte, reduceCtorEq, Nat.reduceBEq, Nat.reduceLT, Nat.reduceEqDiff, Nat.reduceAdd, Nat.reduceSub, Nat.reduceMul]
  refine fun_ret (by simpa only [vex_eq] using same_fun a.ex b.ex _) ?_
  cases h5 : sameE a.ex b.ex with
  | false => rw [h5] at hq; simp -dsimp -implicitDefEqProofs only [aw, slots0, V.copy, V.lend, V.lend1, V.cells, V.boxable, over, bldV, boundV, rowsOf, plains, V.plain, Nat.reduceLeDiff, cond_true, cond_false, implies_true, eq_self, ne_eq, reduceIte, reduceCtorEq, Nat.reduceBEq, Nat.reduceLT, Nat.reduceEqDiff, Nat.reduceAdd, Nat.reduceSub, Nat.reduceMul]; exact out _ _ hq
  | true =>
  rw [h5, Bool.true_and] at hq
  simp -dsimp -implicitDefEqProofs only [aw, slots0, V.copy, V.lend, V.lend1, V.cells, V.boxable, over, bldV, boundV, rowsOf, plains, V.plain, Nat.reduceLeDiff, cond_true, cond_false, implies_true, eq_self, ne_eq, reduceIte, reduceCtorEq, Nat.reduceBEq, Nat.reduceLT, Nat.reduceEqDiff, Nat.reduceAdd, Nat.reduceSub, Nat.reduceMul]
  refine fun_ret (hE _) ?_
  simp -dsimp -implicitDefEqProofs only [aw, slots0, V.copy, V.lend, V.lend1, V.cells, V.boxable, over, bldV, boundV, rowsOf, plains, V.plain, Nat.reduceLeDiff, cond_true, cond_false, implies_true, eq_self, ne_eq, reduceIte, reduceCtorEq, Nat.reduceBEq, Nat.reduceLT, Nat.reduceEqDiff, Nat.reduceAdd, Nat.reduceSub, Nat.reduceMul]
  exact out _ _ hq

end Go.Proofs.YtbhippphcmkjnaaGreatDoor
