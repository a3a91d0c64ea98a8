/-
  The reference: equality of constraints.
-/
import Derived.Test.YthoebpnbhgmoiaaDoorSame8
import Derived.Test.YthoebpnbhgmoiaaDoorRaw2
import Derived.Test.YthoebpnbhgmoiaaDoorK4
import Derived.Test.YthoebpnbhgmoiaaDoorSha
set_option linter.unusedVariables false
set_option linter.unusedSimpArgs false
set_option linter.unusedSectionVars false
namespace Go.Proofs.YthoebpnbhgmoiaaDoor
open Go.RowKit
theorem sameL_refl : ∀ (l : List Ex), (∀ a, a ∈ l → sameE a a = true) → sameL l l = true
  | [], _ => rfl
  | a :: r, h => by simp only [sameL, h a (by simp), sameL_refl r (fun b hb => h b (by simp [hb])), Bool.and_self]
theorem sameE_refl (a : Ex) : sameE a a = true := by
  induction a using Ex.ind2 with
  | h a ih => rw [sameE_eq, sameL_refl _ ih]; simp
theorem rweights_fun (l : List Wt) (hl : l.length ≤ 1000000) (σ : List (List V)) : Fun G 23 [.d (.sl (l.map dwt)), .d (.sl (l.map dwt))] σ (RetV (vbool true) σ) := by
  refine fun_code Tryd.func23 k23 rfl fun hb hw => ?_
  delta c23 oM oV kI kS kT kF
  simp -dsimp -implicitDefEqProofs only [aw, slots0, V.copy, V.lend, V.lend1, V.cells, V.boxable, over, bldV, boundV, rowsOf, plains, V.plain, Nat.reduceLeDiff, cond_true, cond_false, implies_true, eq_self, ne_eq, reduceIte, reduceCtorEq, Nat.reduceBEq, Nat.reduceLT, Nat.reduceEqDiff, Nat.reduceAdd, Nat.reduceSub, Nat.reduceMul, List.length_map, decide_true]
  refine awp_for (R := fun (j : Nat) ρ σ' => ρ = [(0, .d (.sl (l.map dwt))), (1, .d (.sl (l.map dwt))), (5, vint .i64 j)] ∧ σ' = σ) l.length ⟨rfl, rfl⟩ ?_ _
  rintro j ρ' σ' hj ⟨rfl, rfl⟩
  by_cases hlt : j < l.length
  · have hxx : l[j]? = some l[j] := List.getElem?_eq_getElem hlt
    have wj := wrap_nat hlt (show l.length ≤ 9223372036854775807 by omega)
    generalize l[j] = w at hxx
    have hd : dwt w = [dint w.lo, dint w.hi, dint w.w, dbl w.each] := rfl
    have hq : eqaV true [.i .i64, .i .i64, .i .i64, .b] (V.agg [.d (dint w.lo), .d (dint w.hi), .d (dint w.w), .d (dbl w.each)]) (V.agg [.d (dint w.lo), .d (dint w.hi), .d (dint w.w), .d (dbl w.each)]) = some (vbool false) := by
      simp [eqaV, eqLits, eqLit]
    simp -dsimp -implicitDefEqProofs only [aw, slots0, V.copy, V.lend, V.lend1, V.cells, V.boxable, over, bldV, boundV, rowsOf, plains, V.plain, Nat.reduceLeDiff, cond_true, cond_false, implies_true, eq_self, ne_eq, reduceIte, reduceCtorEq, Nat.reduceBEq, Nat.reduceLT, Nat.reduceEqDiff, Nat.reduceAdd, Nat.reduceSub, Nat.reduceMul, List.length_map, Int.ofNat_lt, hlt, decide_true, hxx, hd]
    refine onT_intro (by kernel_rfl) ?_
    simp -dsimp -implicitDefEqProofs only [aw, slots0, V.copy, V.lend, V.lend1, V.cells, V.boxable, over, bldV, boundV, rowsOf, plains, V.plain, Nat.reduceLeDiff, cond_true, cond_false, implies_true, eq_self, ne_eq, reduceIte, reduceCtorEq, Nat.reduceBEq, Nat.reduceLT, Nat.reduceEqDiff, Nat.reduceAdd, Nat.reduceSub, Nat.reduceMul, hq, wj]
    exact ⟨hlt, Nxt.same (by simp) hb (by simp [slotsBelow, V.under]) ⟨rfl, rfl⟩⟩
  · simp -dsimp -implicitDefEqProofs only [aw, slots0, V.copy, V.lend, V.lend1, V.cells, V.boxable, over, bldV, boundV, rowsOf, plains, V.plain, Nat.reduceLeDiff, cond_true, cond_false, implies_true, eq_self, ne_eq, reduceIte, reduceCtorEq, Nat.reduceBEq, Nat.reduceLT, Nat.reduceEqDiff, Nat.reduceAdd, Nat.reduceSub, Nat.reduceMul, List.length_map, Int.ofNat_lt, hlt, decide_false]
    first | exact fin_ret hb rfl rfl List.take_length ⟨rfl, rfl⟩ | exact fin_ret hb rfl rfl List.take_left ⟨rfl, rfl⟩
theorem texts_same (l : List ByteArray) (hl : l.length ≤ 1000000) (σ : List (List V)) : Fun G 24 [.d (dstrs l), .d (dstrs l)] σ (RetV (vbool true) σ) := by
  refine fun_code Tryd.func24 k24 rfl fun hb hw => ?_
  delta c24 oM oV kI kS kT kF
  simp -dsimp -implicitDefEqProofs only [aw, slots0, V.copy, V.lend, V.lend1, V.cells, V.boxable, over, bldV, boundV, rowsOf, plains, V.plain, Nat.reduceLeDiff, cond_true, cond_false, implies_true, eq_self, ne_eq, reduceIte, reduceCtorEq, Nat.reduceBEq, Nat.reduceLT, Nat.reduceEqDiff, Nat.reduceAdd, Nat.reduceSub, Nat.reduceMul, dstrs, List.length_map, decide_true]
  refine awp_for (R := fun (j : Nat) ρ σ' => ρ = [(0, .d (.sl (l.map fun s => [dstr s]))), (1, .d (.sl (l.map fun s => [dstr s]))), (5, vint .i64 j)] ∧ σ' = σ) l.length ⟨rfl, rfl⟩ ?_ _
  rintro j ρ' σ' hj ⟨rfl, rfl⟩
  by_cases hlt : j < l.length
  · have hxx : l[j]? = some l[j] := List.getElem?_eq_getElem hlt
    generalize l[j] = a at hxx
    have wj := wrap_nat hlt (show l.length ≤ 9223372036854775807 by omega)
    simp -dsimp -implicitDefEqProofs only [aw, slots0, V.copy, V.lend, V.lend1, V.cells, V.boxable, over, bldV, boundV, rowsOf, plains, V.plain, Nat.reduceLeDiff, cond_true, cond_false, implies_true, eq_self, ne_eq, reduceIte, reduceCtorEq, Nat.reduceBEq, Nat.reduceLT, Nat.reduceEqDiff, Nat.reduceAdd, Nat.reduceSub, Nat.reduceMul, List.length_map, Int.ofNat_lt, hlt, decide_true, hxx, wj]
    exact Nxt.same (Nat.le_refl _) hb (by simp [slotsBelow, V.under]) ⟨rfl, rfl⟩
  · simp -dsimp -implicitDefEqProofs only [aw, slots0, V.copy, V.lend, V.lend1, V.cells, V.boxable, over, bldV, boundV, rowsOf, plains, V.plain, Nat.reduceLeDiff, cond_true, cond_false, implies_true, eq_self, ne_eq, reduceIte, reduceCtorEq, Nat.reduceBEq, Nat.reduceLT, Nat.reduceEqDiff, Nat.reduceAdd, Nat.reduceSub, Nat.reduceMul, List.length_map, Int.ofNat_lt, hlt, decide_false]
    first | exact fin_ret hb rfl rfl List.take_length ⟨rfl, rfl⟩ | exact fin_ret hb rfl rfl List.take_left ⟨rfl, rfl⟩
set_option maxHeartbeats 2000000 in
theorem rsame_item : ∀ l : List It, (l.length ≤ 1000000 ∧ ∀ x, x ∈ l → ibig x ≤ 1000000) → ∀ σ, Fun G 10 [.d (ditl l), .d (ditl l)] σ (RetV (vbool true) σ) := by
  refine its_ind2 fun l ih hs σ => ?_
  have hln := hs.1
  refine fun_code Tryd.func10 k10b rfl fun hb hw => ?_
  unfold c10b
  simp -dsimp -implicitDefEqProofs only [aw, slots0, V.copy, V.lend, V.lend1, V.cells, V.boxable, over, bldV, boundV, rowsOf, plains, V.plain, Nat.reduceLeDiff, cond_true, cond_false, implies_true, eq_self, ne_eq, reduceIte, reduceCtorEq, Nat.reduceBEq, Nat.reduceLT, Nat.reduceEqDiff, Nat.reduceAdd, Nat.reduceSub, Nat.reduceMul, List.length_map, decide_true]
  refine awp_for (R := fun (j : Nat) ρ σ' => ρ = [(0, .d (ditl l)), (1, .d (ditl l)), (5, vint .i64 j)] ∧ σ' = σ) l.length ⟨rfl, rfl⟩ ?_ _
  rintro j ρ' σ' hj ⟨rfl, rfl⟩
  by_cases hlt : j < l.length
  · obtain ⟨i1, i2⟩ := ih _ (List.getElem_mem hlt)
    have hm := hs.2 _ (List.getElem_mem hlt)
    have hxx : l[j]? = some l[j] := List.getElem?_eq_getElem hlt
    have wj := wrap_nat hlt (show l.length ≤ 9223372036854775807 by omega)
    generalize l[j] = x at hxx i1 i2 hm
    have hbx := ibig_eq x
    have hse := fun σ => rsame_fun x.ex x.ex σ
    rw [sameE_refl] at hse
    simp only [vex_eq] at hse
    have hw1 := fun σ => rweights_fun x.ws (by omega) σ
    have ht1 := fun σ => texts_same x.bef (by omega) σ
    have ht2 := fun σ => texts_same x.aft (by omega) σ
    simp only [dstrs] at ht1 ht2
    have n1 := ibigs_len x.items
    have n2 := ibigs_len x.els
    have h1 := fun σ => i1 ⟨by omega, fun y hy => by have := ibigs_mem hy; omega⟩ σ
    have h2 := fun σ => i2 ⟨by omega, fun y hy => by have := ibigs_mem hy; omega⟩ σ
    simp -dsimp -implicitDefEqProofs only [aw, slots0, V.copy, V.lend, V.lend1, V.cells, V.boxable, over, bldV, boundV, rowsOf, plains, V.plain, Nat.reduceLeDiff, cond_true, cond_false, implies_true, eq_self, ne_eq, reduceIte, reduceCtorEq, Nat.reduceBEq, Nat.reduceLT, Nat.reduceEqDiff, Nat.reduceAdd, Nat.reduceSub, Nat.reduceMul, List.length_map, Int.ofNat_lt, hlt, decide_true]
    have hia : iaV 12 (.d (ditl l)) (vint .i64 j) = some (.row (dit x) 0) := by simp only [vint, v_ia_nat, rowsV, Option.bind_some, List.getElem?_map, hxx, Option.map_some]; rw [dit_eq]; rfl
    have hld : ∀ σ, loadV σ 12 true (.row (dit x) 0) = some (.agg [.d (dint x.kind), .d (dint x.ex.op), .d (dint x.ex.num), .d (dstr x.ex.name), .d (.sl (x.ex.args.map dex)), .d (dstr x.name), .d (dstr x.idx), .d (.sl (x.ws.map dwt)), .d (.sl (x.items.map dit)), .d (.sl (x.els.map dit)), .d (.sl (x.bef.map fun s => [dstr s])), .d (.sl (x.aft.map fun s => [dstr s]))]) := fun σ => by rw [dit_eq]; rfl
    refine w_raw (two_region rfl rfl rfl rfl hia hld ?_)
    rintro p q hpq
    rcases hpq with ⟨rfl, rfl⟩ | ⟨rfl, rfl⟩
    all_goals
      simp -dsimp -implicitDefEqProofs only [aw, slots0, V.copy, V.lend, V.lend1, V.cells, V.boxable, over, bldV, boundV, rowsOf, plains, V.plain, Nat.reduceLeDiff, cond_true, cond_false, implies_true, eq_self, ne_eq, reduceIte, reduceCtorEq, Nat.reduceBEq, Nat.reduceLT, Nat.reduceEqDiff, Nat.reduceAdd, Nat.reduceSub, Nat.reduceMul, decide_true]
      refine fun_ret (hse _) ?_
      simp -dsimp -implicitDefEqProofs only [aw, slots0, V.copy, V.lend, V.lend1, V.cells, V.boxable, over, bldV, boundV, rowsOf, plains, V.plain, Nat.reduceLeDiff, cond_true, cond_false, implies_true, eq_self, ne_eq, reduceIte, reduceCtorEq, Nat.reduceBEq, Nat.reduceLT, Nat.reduceEqDiff, Nat.reduceAdd, Nat.reduceSub, Nat.reduceMul]
      refine fun_ret (hw1 _) ?_
      simp -dsimp -implicitDefEqProofs only [aw, slots0, V.copy, V.lend, V.lend1, V.cells, V.boxable, over, bldV, boundV, rowsOf, plains, V.plain, Nat.reduceLeDiff, cond_true, cond_false, implies_true, eq_self, ne_eq, reduceIte, reduceCtorEq, Nat.reduceBEq, Nat.reduceLT, Nat.reduceEqDiff, Nat.reduceAdd, Nat.reduceSub, Nat.reduceMul]
      refine fun_ret (ht1 _) ?_
      simp -dsimp -implicitDefEqProofs only [aw, slots0, V.copy, V.lend, V.lend1, V.cells, V.boxable, over, bldV, boundV, rowsOf, plains, V.plain, Nat.reduceLeDiff, cond_true, cond_false, implies_true, eq_self, ne_eq, reduceIte, reduceCtorEq, Nat.reduceBEq, Nat.reduceLT, Nat.reduceEqDiff, Nat.reduceAdd, Nat.reduceSub, Nat.reduceMul]
      refine fun_ret (ht2 _) ?_
      simp -dsimp -implicitDefEqProofs only [aw, slots0, V.copy, V.lend, V.lend1, V.cells, V.boxable, over, bldV, boundV, rowsOf, plains, V.plain, Nat.reduceLeDiff, cond_true, cond_false, implies_true, eq_self, ne_eq, reduceIte, reduceCtorEq, Nat.reduceBEq, Nat.reduceLT, Nat.reduceEqDiff, Nat.reduceAdd, Nat.reduceSub, Nat.reduceMul]
      refine fun_ret (h1 _) ?_
      simp -dsimp -implicitDefEqProofs only [aw, slots0, V.copy, V.lend, V.lend1, V.cells, V.boxable, over, bldV, boundV, rowsOf, plains, V.plain, Nat.reduceLeDiff, cond_true, cond_false, implies_true, eq_self, ne_eq, reduceIte, reduceCtorEq, Nat.reduceBEq, Nat.reduceLT, Nat.reduceEqDiff, Nat.reduceAdd, Nat.reduceSub, Nat.reduceMul]
      refine fun_ret (h2 _) ?_
      simp -dsimp -implicitDefEqProofs only [aw, slots0, V.copy, V.lend, V.lend1, V.cells, V.boxable, over, bldV, boundV, rowsOf, plains, V.plain, Nat.reduceLeDiff, cond_true, cond_false, implies_true, eq_self, ne_eq, reduceIte, reduceCtorEq, Nat.reduceBEq, Nat.reduceLT, Nat.reduceEqDiff, Nat.reduceAdd, Nat.reduceSub, Nat.reduceMul, wj]
      exact ⟨hlt, Nxt.drop (by simp) hb (by simp [slotsBelow, V.under]) ⟨rfl, rfl⟩⟩
  · simp -dsimp -implicitDefEqProofs only [aw, slots0, V.copy, V.lend, V.lend1, V.cells, V.boxable, over, bldV, boundV, rowsOf, plains, V.plain, Nat.reduceLeDiff, cond_true, cond_false, implies_true, eq_self, ne_eq, reduceIte, reduceCtorEq, Nat.reduceBEq, Nat.reduceLT, Nat.reduceEqDiff, Nat.reduceAdd, Nat.reduceSub, Nat.reduceMul, List.length_map, Int.ofNat_lt, hlt, decide_false]
    first | exact fin_ret hb rfl rfl List.take_length ⟨rfl, rfl⟩ | exact fin_ret hb rfl rfl List.take_left ⟨rfl, rfl⟩
end Go.Proofs.YthoebpnbhgmoiaaDoor
