/-
  Same, in the plain world.
-/
import Derived.Test.YthoebpnbhgmoiaaDoorBr8
set_option linter.unusedVariables false
set_option linter.unusedSimpArgs false
set_option linter.unusedSectionVars false
namespace Go.Proofs.YthoebpnbhgmoiaaDoor
open Go.RowKit
mutual
def sameE : Ex → Ex → Bool
  | .mk o n s l, .mk o' n' s' l' => (decide (o = o') && (decide (n = n') && (decide (s = s') && sameL l l')))
def sameL : List Ex → List Ex → Bool
  | [], [] => true
  | a :: r, b :: r' => sameE a b && sameL r r'
  | _, _ => false
end
theorem sameL_len : ∀ {l l' : List Ex}, l.length ≠ l'.length → sameL l l' = false
  | [], [], h => absurd rfl h
  | a :: r, b :: r', h => by simp only [sameL, sameL_len (l := r) (l' := r') (by simpa using h), Bool.and_false]
  | [], _ :: _, _ => rfl
  | _ :: _, [], _ => rfl
theorem sameE_eq (a b : Ex) : sameE a b = (decide (a.op = b.op) && (decide (a.num = b.num) && (decide (a.name = b.name) && sameL a.args b.args))) := by
  cases a; cases b; rfl
theorem Ex.ind2 {P : Ex → Prop} (h : ∀ e : Ex, (∀ a, a ∈ e.args → P a) → P e) : ∀ e, P e := Ex.ind fun o n s l ih => h (.mk o n s l) ih
theorem sameL_step {l l' : List Ex} {j : Nat} (h : j < l.length) (h' : j < l'.length) : sameL (l.drop j) (l'.drop j) = (sameE l[j] l'[j] && sameL (l.drop (j + 1)) (l'.drop (j + 1))) := by
  rw [List.drop_eq_getElem_cons h, List.drop_eq_getElem_cons h']; rfl
theorem rsame_fun (a : Ex) : ∀ (b : Ex) (σ : List (List V)), Fun G 22 [vex a, vex b] σ (RetV (vbool (sameE a b)) σ) := by
  induction a using Ex.ind2 with
  | h a ih =>
  intro b σ
  refine fun_code Tryd.func22 k22 (by simp only [vex_eq]; rfl) fun hb hw => ?_
  have hq := sameE_eq a b
  have h0 := hw 0 (by simp)
  simp only [List.getElem_cons_zero, vex_eq] at h0
  have hm := wf_len (wf_cell h0 3 (by simp))
  simp only [List.getElem_cons_succ, List.getElem_cons_zero, List.length_map] at hm
  have out : ∀ (σ' l : List (List V)) (b1 : Bool), sameE a b = b1 → σ' = σ ++ l → fin σ.length rs22 (RetV (vbool (sameE a b)) σ) .ret [(4, .d (.lit (.bool b1)))] σ' := fun σ' l b1 h e => by
    subst e; exact fin_ret hb rfl rfl List.take_left ⟨by rw [h]; rfl, rfl⟩
  delta c22 oM oV kI kS kT kF
  simp -dsimp -implicitDefEqProofs only [aw, slots0, V.copy, V.lend, V.lend1, V.cells, V.boxable, over, bldV, boundV, rowsOf, plains, V.plain, Nat.reduceLeDiff, cond_true, cond_false, implies_true, eq_self, ne_eq, reduceIte, reduceCtorEq, Nat.reduceBEq, Nat.reduceLT, Nat.reduceEqDiff, Nat.reduceAdd, Nat.reduceSub, Nat.reduceMul, vex_eq]
  refine iteT_intro (fun h1 => ?_) (fun h1 => ?_)
  · simp -dsimp -implicitDefEqProofs only [aw, slots0, V.copy, V.lend, V.lend1, V.cells, V.boxable, over, bldV, boundV, rowsOf, plains, V.plain, Nat.reduceLeDiff, cond_true, cond_false, implies_true, eq_self, ne_eq, reduceIte, reduceCtorEq, Nat.reduceBEq, Nat.reduceLT, Nat.reduceEqDiff, Nat.reduceAdd, Nat.reduceSub, Nat.reduceMul]
    refine iteT_intro (fun h2 => ?_) (fun h2 => ?_)
    · simp -dsimp -implicitDefEqProofs only [aw, slots0, V.copy, V.lend, V.lend1, V.cells, V.boxable, over, bldV, boundV, rowsOf, plains, V.plain, Nat.reduceLeDiff, cond_true, cond_false, implies_true, eq_self, ne_eq, reduceIte, reduceCtorEq, Nat.reduceBEq, Nat.reduceLT, Nat.reduceEqDiff, Nat.reduceAdd, Nat.reduceSub, Nat.reduceMul]
      refine iteT_intro (fun h3 => ?_) (fun h3 => ?_)
      · simp -dsimp -implicitDefEqProofs only [aw, slots0, V.copy, V.lend, V.lend1, V.cells, V.boxable, over, bldV, boundV, rowsOf, plains, V.plain, Nat.reduceLeDiff, cond_true, cond_false, implies_true, eq_self, ne_eq, reduceIte, reduceCtorEq, Nat.reduceBEq, Nat.reduceLT, Nat.reduceEqDiff, Nat.reduceAdd, Nat.reduceSub, Nat.reduceMul, Int.ofNat_inj]
        refine iteT_intro (fun h4 => ?_) (fun h4 => ?_)
        · simp -dsimp -implicitDefEqProofs only [aw, slots0, V.copy, V.lend, V.lend1, V.cells, V.boxable, over, bldV, boundV, rowsOf, plains, V.plain, Nat.reduceLeDiff, cond_true, cond_false, implies_true, eq_self, ne_eq, reduceIte, reduceCtorEq, Nat.reduceBEq, Nat.reduceLT, Nat.reduceEqDiff, Nat.reduceAdd, Nat.reduceSub, Nat.reduceMul]
          exact out _ _ _ (by rw [hq, sameL_len (by simpa using h4)]; simp) rfl
        · simp -dsimp -implicitDefEqProofs only [aw, slots0, V.copy, V.lend, V.lend1, V.cells, V.boxable, over, bldV, boundV, rowsOf, plains, V.plain, Nat.reduceLeDiff, cond_true, cond_false, implies_true, eq_self, ne_eq, reduceIte, reduceCtorEq, Nat.reduceBEq, Nat.reduceLT, Nat.reduceEqDiff, Nat.reduceAdd, Nat.reduceSub, Nat.reduceMul]
          have h4 : a.args.length = b.args.length := by simpa using h4
          generalize hbx : [[V.d (dint a.op), V.d (dint a.num), V.d (dstr a.name), V.d (D.sl (List.map dex a.args))], [V.d (dint b.op), V.d (dint b.num), V.d (dstr b.name), V.d (D.sl (List.map dex b.args))]] = bx at out ⊢
          refine awp_for (R := fun (j : Nat) ρ σ' => ρ = [(2, .ptr σ.length 0), (3, .ptr (σ.length + 1) 0), (5, vint .i64 j)] ∧ σ' = σ ++ bx ∧ sameL a.args b.args = sameL (a.args.drop j) (b.args.drop j)) a.args.length ⟨rfl, rfl, by simp⟩ ?_ _
          rintro j ρ' σ' hj ⟨rfl, rfl, hrec⟩
          subst hbx
          by_cases hlt : j < a.args.length
          · have hlt' : j < b.args.length := by omega
            simp -dsimp -implicitDefEqProofs only [aw, slots0, V.copy, V.lend, V.lend1, V.cells, V.boxable, over, bldV, boundV, rowsOf, plains, V.plain, Nat.reduceLeDiff, cond_true, cond_false, implies_true, eq_self, ne_eq, reduceIte, reduceCtorEq, Nat.reduceBEq, Nat.reduceLT, Nat.reduceEqDiff, Nat.reduceAdd, Nat.reduceSub, Nat.reduceMul, Int.ofNat_lt, hlt, decide_true, List.getElem?_eq_getElem hlt, List.getElem?_eq_getElem hlt', dex_eq]
            refine calm_ret (by simpa only [vex_eq] using ih _ (List.getElem_mem hlt) _ _) ?_
            simp -dsimp -implicitDefEqProofs only [aw, slots0, V.copy, V.lend, V.lend1, V.cells, V.boxable, over, bldV, boundV, rowsOf, plains, V.plain, Nat.reduceLeDiff, cond_true, cond_false, implies_true, eq_self, ne_eq, reduceIte, reduceCtorEq, Nat.reduceBEq, Nat.reduceLT, Nat.reduceEqDiff, Nat.reduceAdd, Nat.reduceSub, Nat.reduceMul, wrap_nat hlt hm]
            refine iteT_intro (fun hs => ?_) (fun hs => ?_)
            · simp -dsimp -implicitDefEqProofs only [aw, slots0, V.copy, V.lend, V.lend1, V.cells, V.boxable, over, bldV, boundV, rowsOf, plains, V.plain, Nat.reduceLeDiff, cond_true, cond_false, implies_true, eq_self, ne_eq, reduceIte, reduceCtorEq, Nat.reduceBEq, Nat.reduceLT, Nat.reduceEqDiff, Nat.reduceAdd, Nat.reduceSub, Nat.reduceMul]
              exact out _ _ _ (by rw [hq, hrec, sameL_step hlt hlt']; simp_all) rfl
            · simp -dsimp -implicitDefEqProofs only [aw, slots0, V.copy, V.lend, V.lend1, V.cells, V.boxable, over, bldV, boundV, rowsOf, plains, V.plain, Nat.reduceLeDiff, cond_true, cond_false, implies_true, eq_self, ne_eq, reduceIte, reduceCtorEq, Nat.reduceBEq, Nat.reduceLT, Nat.reduceEqDiff, Nat.reduceAdd, Nat.reduceSub, Nat.reduceMul, wrap_nat hlt hm]
              refine ⟨hlt, Nxt.same (by simp) (boxesBelow_app hb rfl) ?_ ?_⟩
              · simp [slotsBelow, V.under]
              · exact ⟨rfl, rfl, by rw [hrec, sameL_step hlt hlt']; simp_all⟩
          · simp -dsimp -implicitDefEqProofs only [aw, slots0, V.copy, V.lend, V.lend1, V.cells, V.boxable, over, bldV, boundV, rowsOf, plains, V.plain, Nat.reduceLeDiff, cond_true, cond_false, implies_true, eq_self, ne_eq, reduceIte, reduceCtorEq, Nat.reduceBEq, Nat.reduceLT, Nat.reduceEqDiff, Nat.reduceAdd, Nat.reduceSub, Nat.reduceMul, Int.ofNat_lt, hlt, decide_false]
            exact out _ _ _ (by rw [hq, hrec, List.drop_of_length_le (by omega), List.drop_of_length_le (by omega)]; simp_all [sameL]) rfl
      · simp -dsimp -implicitDefEqProofs only [aw, slots0, V.copy, V.lend, V.lend1, V.cells, V.boxable, over, bldV, boundV, rowsOf, plains, V.plain, Nat.reduceLeDiff, cond_true, cond_false, implies_true, eq_self, ne_eq, reduceIte, reduceCtorEq, Nat.reduceBEq, Nat.reduceLT, Nat.reduceEqDiff, Nat.reduceAdd, Nat.reduceSub, Nat.reduceMul]
        exact out _ _ _ (by rw [hq]; simp_all) rfl
    · simp -dsimp -implicitDefEqProofs only [aw, slots0, V.copy, V.lend, V.lend1, V.cells, V.boxable, over, bldV, boundV, rowsOf, plains, V.plain, Nat.reduceLeDiff, cond_true, cond_false, implies_true, eq_self, ne_eq, reduceIte, reduceCtorEq, Nat.reduceBEq, Nat.reduceLT, Nat.reduceEqDiff, Nat.reduceAdd, Nat.reduceSub, Nat.reduceMul]
      exact out _ _ _ (by rw [hq]; simp_all) rfl
  · simp -dsimp -implicitDefEqProofs only [aw, slots0, V.copy, V.lend, V.lend1, V.cells, V.boxable, over, bldV, boundV, rowsOf, plains, V.plain, Nat.reduceLeDiff, cond_true, cond_false, implies_true, eq_self, ne_eq, reduceIte, reduceCtorEq, Nat.reduceBEq, Nat.reduceLT, Nat.reduceEqDiff, Nat.reduceAdd, Nat.reduceSub, Nat.reduceMul]
    exact out _ _ _ (by rw [hq]; simp_all) rfl
end Go.Proofs.YthoebpnbhgmoiaaDoor
