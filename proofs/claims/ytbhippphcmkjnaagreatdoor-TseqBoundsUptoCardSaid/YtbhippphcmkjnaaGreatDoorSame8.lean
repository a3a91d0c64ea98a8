/-
  Same, in the plain world.
-/
import Derived.Test.YtbhippphcmkjnaaGreatDoorBr8
set_option linter.unusedVariables false
set_option linter.unusedSimpArgs false
namespace Go.Proofs.YtbhippphcmkjnaaGreatDoor
open Go.RowKit

mutual
def sameE : Ex → Ex → Bool
  | .mk o n s l, .mk o' n' s' l' => (decide (o = o') && (decide (n = n') && (decide (s = s') && sameL l l')))
def sameL : List Ex → List Ex → Bool
  | [], [] => true
  | a :: r, b :: r' => sameE a b && sameL r r'
  | _, _ => false
end
theorem sameL_len : ∀ {l l' : List Ex}, l.length ≠ l'.length → sameL l l' = false
  | [], [], h => absurd rfl h
  | a :: r, b :: r', h => by simp only [sameL, sameL_len (l := r) (l' := r') (by simpa using h), Bool.and_false]
  | [], _ :: _, _ => rfl
  | _ :: _, [], _ => rfl
theorem sameE_eq (a b : Ex) : sameE a b = (decide (a.op = b.op) && (decide (a.num = b.num) && (decide (a.name = b.name) && sameL a.args b.args))) := by
  cases a; cases b; rfl
theorem Ex.ind2 {P : Ex → Prop} (h : ∀ e : Ex, (∀ a, a ∈ e.args → P a) → P e) : ∀ e, P e := Ex.ind fun o n s l ih => h (.mk o n s l) ih
theorem sameL_step {l l' : List Ex} {j : Nat} (h : j < l.length) (h' : j < l'.length) : sameL (l.drop j) (l'.drop j) = (sameE l[j] l'[j] && sameL (l.drop (j + 1)) (l'.drop (j + 1))) := by
  rw [List.drop_eq_getElem_cons h, List.drop_eq_getElem_cons h']; rfl

theorem equal_fun (l l' : List Ex) (F : FuncId) (h : ∀ i (hi : i < l.length) (hi' : i < l'.length) σ, Fun G F [vex l[i], vex l'[i]] σ (RetV (vbool (sameE l[i] l'[i])) σ)) (σ : List (List V)) :
    Fun G 89 [.d (.sl (l.map dex)), .d (.sl (l'.map dex)), .fn F []] σ (RetV (vbool (sameL l l')) σ) := by
  refine fun_code Tryz.func89 k89 rfl fun hb hw => ?_
  have hm := wf_len (hw 0 (by simp))
  rw [List.length_map] at hm
  unfold c89
  simp -dsimp -implicitDefEqProofs only [aw, slots0, V.copy, V.lend, V.lend1, V.cells, V.boxable, over, bldV, boundV, rowsOf, plains, V.plain, Nat.reduceLeDiff, cond_true, cond_false, implies_true, eq_self, ne_eq, reduceIte, reduceCtorEq, Nat.reduceBEq, Nat.reduceLT, Nat.reduceEqDiff, Nat.reduceAdd, Nat.reduceSub, Nat.reduceMul, Int.ofNat_inj]
  refine iteT_intro (fun hne => ?_) (fun hlen => ?_)
  · simp -dsimp -implicitDefEqProofs only [aw, slots0, V.copy, V.lend, V.lend1, V.cells, V.boxable, over, bldV, boundV, rowsOf, plains, V.plain, Nat.reduceLeDiff, cond_true, cond_false, implies_true, eq_self, ne_eq, reduceIte, reduceCtorEq, Nat.reduceBEq, Nat.reduceLT, Nat.reduceEqDiff, Nat.reduceAdd, Nat.reduceSub, Nat.reduceMul]
    exact fin_ret hb rfl rfl List.take_length ⟨by rw [sameL_len (by simpa using hne)]; rfl, rfl⟩
  · have hlen : l.length = l'.length := by simpa using hlen
    simp -dsimp -implicitDefEqProofs only [aw, slots0, V.copy, V.lend, V.lend1, V.cells, V.boxable, over, bldV, boundV, rowsOf, plains, V.plain, Nat.reduceLeDiff, cond_true, cond_false, implies_true, eq_self, ne_eq, reduceIte, reduceCtorEq, Nat.reduceBEq, Nat.reduceLT, Nat.reduceEqDiff, Nat.reduceAdd, Nat.reduceSub, Nat.reduceMul]
    refine awp_for (R := fun (j : Nat) ρ σ' => ρ = [(1, .d (.sl (l'.map dex))), (2, .fn F []), (15, .d (.sl (l.map dex))), (16, vint .i64 l.length), (17, vint .i64 j)] ∧ σ' = σ ∧ sameL l l' = sameL (l.drop j) (l'.drop j)) l.length ⟨rfl, rfl, by simp⟩ ?_ _
    rintro j ρ' σ' hj ⟨rfl, rfl, hrec⟩
    by_cases hlt : j < l.length
    · have hlt' : j < l'.length := by omega
      simp -dsimp -implicitDefEqProofs only [aw, slots0, V.copy, V.lend, V.lend1, V.cells, V.boxable, over, bldV, boundV, rowsOf, plains, V.plain, Nat.reduceLeDiff, cond_true, cond_false, implies_true, eq_self, ne_eq, reduceIte, reduceCtorEq, Nat.reduceBEq, Nat.reduceLT, Nat.reduceEqDiff, Nat.reduceAdd, Nat.reduceSub, Nat.reduceMul, Int.ofNat_lt, hlt, decide_true, List.getElem?_eq_getElem hlt, List.getElem?_eq_getElem hlt', dex_eq]
      refine fun_ret (by simpa only [vex_eq] using h j hlt hlt' _) ?_
      simp -dsimp -implicitDefEqProofs only [aw, slots0, V.copy, V.lend, V.lend1, V.cells, V.boxable, over, bldV, boundV, rowsOf, plains, V.plain, Nat.reduceLeDiff, cond_true, cond_false, implies_true, eq_self, ne_eq, reduceIte, reduceCtorEq, Nat.reduceBEq, Nat.reduceLT, Nat.reduceEqDiff, Nat.reduceAdd, Nat.reduceSub, Nat.reduceMul, wrap_nat hlt hm]
      refine iteT_intro (fun hs => ?_) (fun hs => ?_)
      · simp -dsimp -implicitDefEqProofs only [aw, slots0, V.copy, V.lend, V.lend1, V.cells, V.boxable, over, bldV, boundV, rowsOf, plains, V.plain, Nat.reduceLeDiff, cond_true, cond_false, implies_true, eq_self, ne_eq, reduceIte, reduceCtorEq, Nat.reduceBEq, Nat.reduceLT, Nat.reduceEqDiff, Nat.reduceAdd, Nat.reduceSub, Nat.reduceMul]
        exact fin_ret hb rfl rfl List.take_left ⟨by rw [hrec, sameL_step hlt hlt']; simp only [Bool.not_eq_true'] at hs; rw [hs]; rfl, rfl⟩
      · simp -dsimp -implicitDefEqProofs only [aw, slots0, V.copy, V.lend, V.lend1, V.cells, V.boxable, over, bldV, boundV, rowsOf, plains, V.plain, Nat.reduceLeDiff, cond_true, cond_false, implies_true, eq_self, ne_eq, reduceIte, reduceCtorEq, Nat.reduceBEq, Nat.reduceLT, Nat.reduceEqDiff, Nat.reduceAdd, Nat.reduceSub, Nat.reduceMul, wrap_nat hlt hm]
        refine ⟨hlt, Nxt.drop (Nat.le_refl _) hb ?_ ?_⟩
        · rfl
        · exact ⟨rfl, rfl, by rw [hrec, sameL_step hlt hlt']; simp only [Bool.not_eq_false'] at hs; rw [hs]; rfl⟩
    · simp -dsimp -implicitDefEqProofs only [aw, slots0, V.copy, V.lend, V.lend1, V.cells, V.boxable, over, bldV, boundV, rowsOf, plains, V.plain, Nat.reduceLeDiff, cond_true, cond_false, implies_true, eq_self, ne_eq, reduceIte, reduceCtorEq, Nat.reduceBEq, Nat.reduceLT, Nat.reduceEqDiff, Nat.reduceAdd, Nat.reduceSub, Nat.reduceMul, Int.ofNat_lt, hlt, decide_false]
      exact fin_ret hb rfl rfl List.take_length ⟨by rw [hrec, List.drop_of_length_le (by omega), List.drop_of_length_le (by omega)]; rfl, rfl⟩

theorem same_fun (a : Ex) : ∀ (b : Ex) (σ : List (List V)), Fun G 60 [vex a, vex b] σ (RetV (vbool (sameE a b)) σ) := by
  induction a using Ex.ind2 with
  | h a ih =>
  intro b σ
  have hE := fun σ' => equal_fun a.args b.args 60 (fun i hi hi' σ => ih _ (List.getElem_mem hi) _ σ) σ'
  refine fun_code Tryz.func60 k60 (by simp only [vex_eq]; rfl) fun hb hw => ?_
  have hq := sameE_eq a b
  unfold c60
  simp -dsimp -implicitDefEqProofs only [aw, slots0, V.copy, V.lend, V.lend1, V.cells, V.boxable, over, bldV, boundV, rowsOf, plains, V.plain, Nat.reduceLeDiff, cond_true, cond_false, implies_true, eq_self, ne_eq, reduceIte, reduceCtorEq, Nat.reduceBEq, Nat.reduceLT, Nat.reduceEqDiff, Nat.reduceAdd, Nat.reduceSub, Nat.reduceMul, vex_eq]
  refine iteT_intro (fun h1 => ?_) (fun h1 => ?_)
  · simp -dsimp -implicitDefEqProofs only [aw, slots0, V.copy, V.lend, V.lend1, V.cells, V.boxable, over, bldV, boundV, rowsOf, plains, V.plain, Nat.reduceLeDiff, cond_true, cond_false, implies_true, eq_self, ne_eq, reduceIte, reduceCtorEq, Nat.reduceBEq, Nat.reduceLT, Nat.reduceEqDiff, Nat.reduceAdd, Nat.reduceSub, Nat.reduceMul]
    refine iteT_intro (fun h2 => ?_) (fun h2 => ?_)
    · simp -dsimp -implicitDefEqProofs only [aw, slots0, V.copy, V.lend, V.lend1, V.cells, V.boxable, over, bldV, boundV, rowsOf, plains, V.plain, Nat.reduceLeDiff, cond_true, cond_false, implies_true, eq_self, ne_eq, reduceIte, reduceCtorEq, Nat.reduceBEq, Nat.reduceLT, Nat.reduceEqDiff, Nat.reduceAdd, Nat.reduceSub, Nat.reduceMul]
      refine iteT_intro (fun h3 => ?_) (fun h3 => ?_)
      · simp -dsimp -implicitDefEqProofs only [aw, slots0, V.copy, V.lend, V.lend1, V.cells, V.boxable, over, bldV, boundV, rowsOf, plains, V.plain, Nat.reduceLeDiff, cond_true, cond_false, implies_true, eq_self, ne_eq, reduceIte, reduceCtorEq, Nat.reduceBEq, Nat.reduceLT, Nat.reduceEqDiff, Nat.reduceAdd, Nat.reduceSub, Nat.reduceMul]
        refine fun_ret (hE _) ?_
        simp -dsimp -implicitDefEqProofs only [aw, slots0, V.copy, V.lend, V.lend1, V.cells, V.boxable, over, bldV, boundV, rowsOf, plains, V.plain, Nat.reduceLeDiff, cond_true, cond_false, implies_true, eq_self, ne_eq, reduceIte, reduceCtorEq, Nat.reduceBEq, Nat.reduceLT, Nat.reduceEqDiff, Nat.reduceAdd, Nat.reduceSub, Nat.reduceMul]
        exact fin_ret hb rfl rfl List.take_left ⟨by rw [hq, h1, h2, h3]; rfl, rfl⟩
      · simp -dsimp -implicitDefEqProofs only [aw, slots0, V.copy, V.lend, V.lend1, V.cells, V.boxable, over, bldV, boundV, rowsOf, plains, V.plain, Nat.reduceLeDiff, cond_true, cond_false, implies_true, eq_self, ne_eq, reduceIte, reduceCtorEq, Nat.reduceBEq, Nat.reduceLT, Nat.reduceEqDiff, Nat.reduceAdd, Nat.reduceSub, Nat.reduceMul]
        exact fin_ret hb rfl rfl List.take_left ⟨by rw [hq, h1, h2, h3]; rfl, rfl⟩
    · simp -dsimp -implicitDefEqProofs only [aw, slots0, V.copy, V.lend, V.lend1, V.cells, V.boxable, over, bldV, boundV, rowsOf, plains, V.plain, Nat.reduceLeDiff, cond_true, cond_false, implies_true, eq_self, ne_eq, reduceIte, reduceCtorEq, Nat.reduceBEq, Nat.reduceLT, Nat.reduceEqDiff, Nat.reduceAdd, Nat.reduceSub, Nat.reduceMul]
      exact fin_ret hb rfl rfl List.take_left ⟨by rw [hq, h1, h2]; rfl, rfl⟩
  · simp -dsimp -implicitDefEqProofs only [aw, slots0, V.copy, V.lend, V.lend1, V.cells, V.boxable, over, bldV, boundV, rowsOf, plains, V.plain, Nat.reduceLeDiff, cond_true, cond_false, implies_true, eq_self, ne_eq, reduceIte, reduceCtorEq, Nat.reduceBEq, Nat.reduceLT, Nat.reduceEqDiff, Nat.reduceAdd, Nat.reduceSub, Nat.reduceMul]
    exact fin_ret hb rfl rfl List.take_left ⟨by rw [hq, h1]; rfl, rfl⟩

end Go.Proofs.YtbhippphcmkjnaaGreatDoor
