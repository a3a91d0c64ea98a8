/-
  tseq.fold, for any closure that combines.
-/
import Derived.Test.YtbhippphcmkjnaaGreatDoorTs
set_option linter.unusedVariables false
set_option linter.unusedSimpArgs false
namespace Go.Proofs.YtbhippphcmkjnaaGreatDoor
open Go.RowKit

theorem Nxt.drop1 {n0 : Nat} {R : Slots → List (List V) → Prop} {ρ : Slots} {σ : List (List V)} {a b : List V} (hn : n0 ≤ σ.length) (hb : boxesBelow (σ ++ [a]).length (σ ++ [a]) = true) (hs : slotsBelow (σ ++ [a]).length ρ = true) (hR : R ρ (σ ++ [a])) : Nxt n0 R ρ (σ ++ [a, b]) .mk := by
  have e : σ ++ [a, b] = (σ ++ [a]) ++ [b] := by simp
  rw [e]
  exact Nxt.drop (by rw [List.length_append]; omega) hb hs hR
theorem foldi_fun (val : Ts → Int) (f : FuncId) (P : Ts → Prop) (hP : ∀ s, P s → ∀ a, a ∈ s.args → P a) (hB : ∀ s, P s → tbig s ≤ 1000000)
    (hf : ∀ s, P s → ∀ σ, FunO G f [vts s] 3 1 ((s.args.map val).map fun n => [dint n]) [] σ (RetV (.d (dint (val s))) σ)) (s : Ts) :
    P s → ∀ σ, Fun G 28 [vts s, .fn f []] σ (RetV (.d (dint (val s))) σ) := by
  induction s using Ts.ind with
  | h s ih =>
  intro hs σ
  have hbig := hB s hs
  have hln := tbig_len s
  refine fun_code Tryz.func28 k28 (by simp only [vts_eq]; rfl) fun hb hw => ?_
  unfold c28
  simp -dsimp -implicitDefEqProofs only [aw, slots0, V.copy, V.lend, V.lend1, V.cells, V.boxable, over, bldV, boundV, rowsOf, plains, V.plain, Nat.reduceLeDiff, cond_true, cond_false, implies_true, eq_self, ne_eq, reduceIte, reduceCtorEq, Nat.reduceBEq, Nat.reduceLT, Nat.reduceEqDiff, Nat.reduceAdd, Nat.reduceSub, Nat.reduceMul, vts_eq]
  refine onT_intro (by omega) ?_
  simp -dsimp -implicitDefEqProofs only [aw, slots0, V.copy, V.lend, V.lend1, V.cells, V.boxable, over, bldV, boundV, rowsOf, plains, V.plain, Nat.reduceLeDiff, cond_true, cond_false, implies_true, eq_self, ne_eq, reduceIte, reduceCtorEq, Nat.reduceBEq, Nat.reduceLT, Nat.reduceEqDiff, Nat.reduceAdd, Nat.reduceSub, Nat.reduceMul]
  refine awp_forK [1, 2, 5, 13, 14, 15] (R := fun (j : Nat) ρ σ' => ρ = [(1, .fn f []), (2, .ptr σ.length 0), (5, .own 3 1 (((s.args.take j).map val).map fun n => [dint n])), (13, .d (.sl (s.args.map dts))), (14, vint .i64 s.args.length), (15, vint .i64 j)] ∧ σ' = σ ++ [[.d (dint s.op), .d (dint s.lo), .d (dint s.hi), .d (dint s.ex.op), .d (dint s.ex.num), .d (dstr s.ex.name), .d (.sl (s.ex.args.map dex)), .d (dstr s.name), .d (.sl (s.args.map dts))]]) s.args.length ⟨rfl, rfl⟩ ?_ _
  rintro j ρ' σ' hj ⟨rfl, rfl⟩
  by_cases hlt : j < s.args.length
  · simp -dsimp -implicitDefEqProofs only [aw, slots0, V.copy, V.lend, V.lend1, V.cells, V.boxable, over, bldV, boundV, rowsOf, plains, V.plain, Nat.reduceLeDiff, cond_true, cond_false, implies_true, eq_self, ne_eq, reduceIte, reduceCtorEq, Nat.reduceBEq, Nat.reduceLT, Nat.reduceEqDiff, Nat.reduceAdd, Nat.reduceSub, Nat.reduceMul, Int.ofNat_lt, hlt, decide_true, List.getElem?_eq_getElem hlt, dts_eq s.args[j]]
    refine fun_ret (by simpa only [vts_eq] using ih s.args[j] (List.getElem_mem hlt) (hP s hs _ (List.getElem_mem hlt)) _) ?_
    have ht : s.args.take (j + 1) = s.args.take j ++ [s.args[j]] := by rw [List.take_add_one, List.getElem?_eq_getElem hlt]; rfl
    simp -dsimp -implicitDefEqProofs only [aw, slots0, V.copy, V.lend, V.lend1, V.cells, V.boxable, over, bldV, boundV, rowsOf, plains, V.plain, Nat.reduceLeDiff, cond_true, cond_false, implies_true, eq_self, ne_eq, reduceIte, reduceCtorEq, Nat.reduceBEq, Nat.reduceLT, Nat.reduceEqDiff, Nat.reduceAdd, Nat.reduceSub, Nat.reduceMul]
    refine onT_intro (by first | omega | (simp only [List.length_map, List.length_take]; omega)) ?_
    simp -dsimp -implicitDefEqProofs only [aw, slots0, V.copy, V.lend, V.lend1, V.cells, V.boxable, over, bldV, boundV, rowsOf, plains, V.plain, Nat.reduceLeDiff, cond_true, cond_false, implies_true, eq_self, ne_eq, reduceIte, reduceCtorEq, Nat.reduceBEq, Nat.reduceLT, Nat.reduceEqDiff, Nat.reduceAdd, Nat.reduceSub, Nat.reduceMul, wrap_nat hlt (show s.args.length ≤ 9223372036854775807 by omega)]
    refine ⟨hlt, Nxt.drop1 (Nat.le_refl _) (boxesBelow_app hb rfl) (by simp [slotsBelow, V.under, V.unders]) ⟨?_, rfl⟩⟩
    rw [ht, List.map_append, List.map_append]; rfl
  · simp -dsimp -implicitDefEqProofs only [aw, slots0, V.copy, V.lend, V.lend1, V.cells, V.boxable, over, bldV, boundV, rowsOf, plains, V.plain, Nat.reduceLeDiff, cond_true, cond_false, implies_true, eq_self, ne_eq, reduceIte, reduceCtorEq, Nat.reduceBEq, Nat.reduceLT, Nat.reduceEqDiff, Nat.reduceAdd, Nat.reduceSub, Nat.reduceMul, Int.ofNat_lt, hlt, decide_false]
    rw [List.take_of_length_le (show s.args.length ≤ j by omega)]
    refine funo_ret (by simpa only [vts_eq] using hf s hs _) ?_
    simp -dsimp -implicitDefEqProofs only [aw, slots0, V.copy, V.lend, V.lend1, V.cells, V.boxable, over, bldV, boundV, rowsOf, plains, V.plain, Nat.reduceLeDiff, cond_true, cond_false, implies_true, eq_self, ne_eq, reduceIte, reduceCtorEq, Nat.reduceBEq, Nat.reduceLT, Nat.reduceEqDiff, Nat.reduceAdd, Nat.reduceSub, Nat.reduceMul]
    exact fin_ret hb rfl rfl List.take_left ⟨rfl, rfl⟩
end Go.Proofs.YtbhippphcmkjnaaGreatDoor
