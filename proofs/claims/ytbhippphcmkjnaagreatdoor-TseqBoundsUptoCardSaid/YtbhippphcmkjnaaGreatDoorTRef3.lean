/-
  The reference of sequences: wrong, Valid.
-/
import Derived.Test.YtbhippphcmkjnaaGreatDoorTRef2
import Derived.Test.YtbhippphcmkjnaaGreatDoorTR8
set_option linter.unusedVariables false
set_option linter.unusedSimpArgs false
namespace Go.Proofs.YtbhippphcmkjnaaGreatDoor
open Go.RowKit

/-- The list ends at the first name that is among those that are set. -/
theorem any_drop {l : List ByteArray} {p : ByteArray → Bool} {j : Nat} (h : j < l.length) : (l.drop j).any p = (p l[j] || (l.drop (j + 1)).any p) := by
  rw [List.drop_eq_getElem_cons h]; rfl
theorem inB_tpre (s : Ts) (n : ByteArray) : inB n (tpre s) = inB n (tnm s) := by
  have h := (tpre_perm s).2 n
  unfold inB
  rw [Bool.eq_iff_iff, List.any_eq_true, List.any_eq_true]
  constructor
  · rintro ⟨x, hx, e⟩; have := of_decide_eq_true e; subst this; exact ⟨x, h.1 hx, by simp⟩
  · rintro ⟨x, hx, e⟩; have := of_decide_eq_true e; subst this; exact ⟨x, h.2 hx, by simp⟩
theorem shape_one {s : Ts} (h : shapedB s = true) (o : s.op = 6 ∨ s.op = 7) : s.args.length = 1 := by
  rw [shapedB_eq, Bool.and_eq_true] at h
  have h1 := h.1
  unfold shapeB at h1
  rw [if_neg (by omega), if_neg (by omega), if_neg (by omega), if_neg (by omega), if_pos o, Bool.and_eq_true] at h1
  simpa using h1.1
/-- The error of a node, by the reference's tests. -/
theorem nodeT_ref (s : Ts) (below : Bool) : nodeT s below =
    if shapedB s = false then 1
    else if s.op = 6 ∧ nameB s.name = false then 7
    else if (s.op = 1 ∨ s.op = 6 ∨ s.op = 7) ∧ validE s.ex ≠ 0 then validE s.ex
    else if s.op = 6 ∧ below = true then 13
    else if s.op = 7 ∧ ((namesOf [2] s.ex).any fun n => inB n (tpre s.arg0)) = true then 13
    else 0 := by
  have hw : writtenB s.op = true ↔ (s.op = 1 ∨ s.op = 6 ∨ s.op = 7) := by
    unfold writtenB
    simp only [Bool.or_eq_true, decide_eq_true_eq]
  have hc : ((!shapeB s || ((!writtenB s.op && !zeroB s.ex) || (decide (s.op ≠ 6) && decide (s.name ≠ ⟨#[]⟩)))) = true) ↔ shapedB s = false := by
    rw [shapedB_eq]
    unfold nmB
    cases shapeB s <;> cases writtenB s.op <;> cases zeroB s.ex <;> by_cases h6 : s.op = 6 <;> by_cases hn : s.name = ⟨#[]⟩ <;> simp [h6, hn]
  have hi : ((namesOf [2] s.ex).any fun n => inB n (tpre s.arg0)) = ((namesOf [2] s.ex).any fun n => inB n (tnm s.arg0)) := by
    congr 1; funext n; exact inB_tpre s.arg0 n
  rw [hi]
  unfold nodeT
  simp only [hc, hw, Bool.and_eq_true, decide_eq_true_eq, Bool.not_eq_true']
set_option maxHeartbeats 1000000 in
theorem wrong_fun (s : Ts) : ∀ (below : Bool), tbig s ≤ 1000000 → tsz s ≤ 100 → tdp s ≤ 8 → ∀ σ, Fun G 26 [vts s, .d (.lit (.bool below))] σ (RetV (.d (dint (checkT s below))) σ) := by
  induction s using Ts.ind with
  | h s ih =>
  intro below hs h100 h8 σ
  have hln := tbig_len s
  have hsz := tbig_eq s
  have hq := checkT_eq s below
  have hn := nodeT_ref s below
  have hv : ∀ σ, Fun G 51 [vex s.ex] σ (RetV (.d (dint (validE s.ex))) σ) := fun_rvalid s.ex (by omega) (by have := edepth_le s.ex; omega)
  refine fun_code Tryz.func26 k26 (by simp only [vts_eq]; rfl) fun hb hw => ?_
  unfold c26
  have out : ∀ (n : Int) (l : List (List V)), checkT s below = n → fin σ.length rs26 (RetV (.d (dint (checkT s below))) σ) .ret [(4, .d (.lit (.int .i64 n)))] (σ ++ l) := fun n l h => by
    rw [h]; exact fin_ret hb rfl rfl List.take_left ⟨rfl, rfl⟩
  have outE : ∀ (n : Int) (l : List (List V)), nodeT s below = n → n ≠ 0 → fin σ.length rs26 (RetV (.d (dint (checkT s below))) σ) .ret [(4, .d (.lit (.int .i64 n)))] (σ ++ l) := fun n l h h0 => out n l (by rw [hq, if_neg (by omega), h])
  refine awp_mid [(1, .d (.lit (.bool below))), (2, .ptr σ.length 0)] (σ ++ [boxT s]) ?_ ?_
  · simp -dsimp -implicitDefEqProofs only [aw, slots0, V.copy, V.lend, V.lend1, V.cells, V.boxable, over, bldV, boundV, rowsOf, plains, V.plain, Nat.reduceLeDiff, cond_true, cond_false, implies_true, eq_self, ne_eq, reduceIte, reduceCtorEq, Nat.reduceBEq, Nat.reduceLT, Nat.reduceEqDiff, Nat.reduceAdd, Nat.reduceSub, Nat.reduceMul, vts_eq]
  -- shaped
  refine awp_midT (fun ρ' σ' => ρ' = [(1, .d (.lit (.bool below))), (2, .ptr σ.length 0), (13, vbool false)] ∧ σ' = σ ++ [boxT s] ∧ shapedB s = true) ?_ ?_
  · simp -dsimp -implicitDefEqProofs only [aw, slots0, V.copy, V.lend, V.lend1, V.cells, V.boxable, over, bldV, boundV, rowsOf, plains, V.plain, Nat.reduceLeDiff, cond_true, cond_false, implies_true, eq_self, ne_eq, reduceIte, reduceCtorEq, Nat.reduceBEq, Nat.reduceLT, Nat.reduceEqDiff, Nat.reduceAdd, Nat.reduceSub, Nat.reduceMul]
    refine fun_ret (by simpa only [vts_eq] using shaped_fun s (by omega) _) ?_
    cases hsp : shapedB s with
    | false =>
      simp -dsimp -implicitDefEqProofs only [aw, slots0, V.copy, V.lend, V.lend1, V.cells, V.boxable, over, bldV, boundV, rowsOf, plains, V.plain, Nat.reduceLeDiff, cond_true, cond_false, implies_true, eq_self, ne_eq, reduceIte, reduceCtorEq, Nat.reduceBEq, Nat.reduceLT, Nat.reduceEqDiff, Nat.reduceAdd, Nat.reduceSub, Nat.reduceMul]
      exact outE 1 _ (by rw [hn, if_pos hsp]) (by omega)
    | true =>
      simp -dsimp -implicitDefEqProofs only [aw, slots0, V.copy, V.lend, V.lend1, V.cells, V.boxable, over, bldV, boundV, rowsOf, plains, V.plain, Nat.reduceLeDiff, cond_true, cond_false, implies_true, eq_self, ne_eq, reduceIte, reduceCtorEq, Nat.reduceBEq, Nat.reduceLT, Nat.reduceEqDiff, Nat.reduceAdd, Nat.reduceSub, Nat.reduceMul]
      exact Mid.mk ⟨rfl, rfl, rfl⟩
  rintro ρ1 σ1 ⟨rfl, rfl, hsp⟩
  rw [if_neg (by rw [hsp]; simp)] at hn
  -- the name
  refine awp_midT (fun ρ' σ' => ρ' = [(1, .d (.lit (.bool below))), (2, .ptr σ.length 0), (22, vbool false)] ∧ σ' = σ ++ [boxT s] ∧ (s.op = 6 → nameB s.name = true)) ?_ ?_
  · by_cases o6 : s.op = 6
    · simp -dsimp -implicitDefEqProofs only [aw, slots0, V.copy, V.lend, V.lend1, V.cells, V.boxable, over, bldV, boundV, rowsOf, plains, V.plain, Nat.reduceLeDiff, cond_true, cond_false, implies_true, eq_self, ne_eq, reduceIte, reduceCtorEq, Nat.reduceBEq, Nat.reduceLT, Nat.reduceEqDiff, Nat.reduceAdd, Nat.reduceSub, Nat.reduceMul, decide_eq_true o6]
      refine fun_ret (fun_risname s.name _) ?_
      cases hnm : nameB s.name with
      | false =>
        simp -dsimp -implicitDefEqProofs only [aw, slots0, V.copy, V.lend, V.lend1, V.cells, V.boxable, over, bldV, boundV, rowsOf, plains, V.plain, Nat.reduceLeDiff, cond_true, cond_false, implies_true, eq_self, ne_eq, reduceIte, reduceCtorEq, Nat.reduceBEq, Nat.reduceLT, Nat.reduceEqDiff, Nat.reduceAdd, Nat.reduceSub, Nat.reduceMul]
        exact outE 7 _ (by rw [hn, if_pos ⟨o6, hnm⟩]) (by omega)
      | true =>
        simp -dsimp -implicitDefEqProofs only [aw, slots0, V.copy, V.lend, V.lend1, V.cells, V.boxable, over, bldV, boundV, rowsOf, plains, V.plain, Nat.reduceLeDiff, cond_true, cond_false, implies_true, eq_self, ne_eq, reduceIte, reduceCtorEq, Nat.reduceBEq, Nat.reduceLT, Nat.reduceEqDiff, Nat.reduceAdd, Nat.reduceSub, Nat.reduceMul]
        exact Mid.mk ⟨rfl, rfl, fun _ => rfl⟩
    · simp -dsimp -implicitDefEqProofs only [aw, slots0, V.copy, V.lend, V.lend1, V.cells, V.boxable, over, bldV, boundV, rowsOf, plains, V.plain, Nat.reduceLeDiff, cond_true, cond_false, implies_true, eq_self, ne_eq, reduceIte, reduceCtorEq, Nat.reduceBEq, Nat.reduceLT, Nat.reduceEqDiff, Nat.reduceAdd, Nat.reduceSub, Nat.reduceMul, decide_eq_false o6]
      exact Mid.mk ⟨rfl, rfl, fun h => absurd h o6⟩
  rintro ρ1 σ1 ⟨rfl, rfl, hnm⟩
  rw [if_neg (fun ⟨h1, h2⟩ => by rw [hnm h1] at h2; cases h2)] at hn
  -- the expression
  refine awp_midT (fun ρ' σ' => (ρ' = [(1, .d (.lit (.bool below))), (2, .ptr σ.length 0), (35, vbool false)] ∨ ρ' = [(1, .d (.lit (.bool below))), (2, .ptr σ.length 0), (5, .d (dint 0)), (40, vbool false)]) ∧ σ' = σ ++ [boxT s] ∧ ((s.op = 1 ∨ s.op = 6 ∨ s.op = 7) → validE s.ex = 0)) ?_ ?_
  · have some7 : (s.op = 1 ∨ s.op = 6 ∨ s.op = 7) → nodeT s below = (if validE s.ex ≠ 0 then validE s.ex else nodeT s below) := fun h => by
      by_cases hz : validE s.ex = 0
      · rw [if_neg (by simp [hz])]
      · rw [if_pos hz, hn, if_pos ⟨h, hz⟩]
    have fin7 : (s.op = 1 ∨ s.op = 6 ∨ s.op = 7) → validE s.ex ≠ 0 → nodeT s below = validE s.ex := fun h hz => by rw [some7 h, if_pos hz]
    by_cases o1 : s.op = 1
    · simp -dsimp -implicitDefEqProofs only [aw, slots0, V.copy, V.lend, V.lend1, V.cells, V.boxable, over, bldV, boundV, rowsOf, plains, V.plain, Nat.reduceLeDiff, cond_true, cond_false, implies_true, eq_self, ne_eq, reduceIte, reduceCtorEq, Nat.reduceBEq, Nat.reduceLT, Nat.reduceEqDiff, Nat.reduceAdd, Nat.reduceSub, Nat.reduceMul, decide_eq_true o1]
      refine fun_ret (by simpa only [vex_eq] using hv _) ?_
      by_cases hz : validE s.ex = 0
      · simp -dsimp -implicitDefEqProofs only [aw, slots0, V.copy, V.lend, V.lend1, V.cells, V.boxable, over, bldV, boundV, rowsOf, plains, V.plain, Nat.reduceLeDiff, cond_true, cond_false, implies_true, eq_self, ne_eq, reduceIte, reduceCtorEq, Nat.reduceBEq, Nat.reduceLT, Nat.reduceEqDiff, Nat.reduceAdd, Nat.reduceSub, Nat.reduceMul, hz, Int.reduceEq, decide_true, decide_false]
        exact Mid.mk ⟨.inr rfl, rfl, fun _ => hz⟩
      · simp -dsimp -implicitDefEqProofs only [aw, slots0, V.copy, V.lend, V.lend1, V.cells, V.boxable, over, bldV, boundV, rowsOf, plains, V.plain, Nat.reduceLeDiff, cond_true, cond_false, implies_true, eq_self, ne_eq, reduceIte, reduceCtorEq, Nat.reduceBEq, Nat.reduceLT, Nat.reduceEqDiff, Nat.reduceAdd, Nat.reduceSub, Nat.reduceMul, decide_eq_false hz]
        exact outE _ _ (fin7 (.inl o1) hz) hz
    by_cases o6 : s.op = 6
    · simp -dsimp -implicitDefEqProofs only [aw, slots0, V.copy, V.lend, V.lend1, V.cells, V.boxable, over, bldV, boundV, rowsOf, plains, V.plain, Nat.reduceLeDiff, cond_true, cond_false, implies_true, eq_self, ne_eq, reduceIte, reduceCtorEq, Nat.reduceBEq, Nat.reduceLT, Nat.reduceEqDiff, Nat.reduceAdd, Nat.reduceSub, Nat.reduceMul, decide_eq_false o1, decide_eq_true o6]
      refine fun_ret (by simpa only [vex_eq] using hv _) ?_
      by_cases hz : validE s.ex = 0
      · simp -dsimp -implicitDefEqProofs only [aw, slots0, V.copy, V.lend, V.lend1, V.cells, V.boxable, over, bldV, boundV, rowsOf, plains, V.plain, Nat.reduceLeDiff, cond_true, cond_false, implies_true, eq_self, ne_eq, reduceIte, reduceCtorEq, Nat.reduceBEq, Nat.reduceLT, Nat.reduceEqDiff, Nat.reduceAdd, Nat.reduceSub, Nat.reduceMul, hz, Int.reduceEq, decide_true, decide_false]
        exact Mid.mk ⟨.inr rfl, rfl, fun _ => hz⟩
      · simp -dsimp -implicitDefEqProofs only [aw, slots0, V.copy, V.lend, V.lend1, V.cells, V.boxable, over, bldV, boundV, rowsOf, plains, V.plain, Nat.reduceLeDiff, cond_true, cond_false, implies_true, eq_self, ne_eq, reduceIte, reduceCtorEq, Nat.reduceBEq, Nat.reduceLT, Nat.reduceEqDiff, Nat.reduceAdd, Nat.reduceSub, Nat.reduceMul, decide_eq_false hz]
        exact outE _ _ (fin7 (.inr (.inl o6)) hz) hz
    by_cases o7 : s.op = 7
    · simp -dsimp -implicitDefEqProofs only [aw, slots0, V.copy, V.lend, V.lend1, V.cells, V.boxable, over, bldV, boundV, rowsOf, plains, V.plain, Nat.reduceLeDiff, cond_true, cond_false, implies_true, eq_self, ne_eq, reduceIte, reduceCtorEq, Nat.reduceBEq, Nat.reduceLT, Nat.reduceEqDiff, Nat.reduceAdd, Nat.reduceSub, Nat.reduceMul, decide_eq_false o1, decide_eq_false o6, decide_eq_true o7]
      refine fun_ret (by simpa only [vex_eq] using hv _) ?_
      by_cases hz : validE s.ex = 0
      · simp -dsimp -implicitDefEqProofs only [aw, slots0, V.copy, V.lend, V.lend1, V.cells, V.boxable, over, bldV, boundV, rowsOf, plains, V.plain, Nat.reduceLeDiff, cond_true, cond_false, implies_true, eq_self, ne_eq, reduceIte, reduceCtorEq, Nat.reduceBEq, Nat.reduceLT, Nat.reduceEqDiff, Nat.reduceAdd, Nat.reduceSub, Nat.reduceMul, hz, Int.reduceEq, decide_true, decide_false]
        exact Mid.mk ⟨.inr rfl, rfl, fun _ => hz⟩
      · simp -dsimp -implicitDefEqProofs only [aw, slots0, V.copy, V.lend, V.lend1, V.cells, V.boxable, over, bldV, boundV, rowsOf, plains, V.plain, Nat.reduceLeDiff, cond_true, cond_false, implies_true, eq_self, ne_eq, reduceIte, reduceCtorEq, Nat.reduceBEq, Nat.reduceLT, Nat.reduceEqDiff, Nat.reduceAdd, Nat.reduceSub, Nat.reduceMul, decide_eq_false hz]
        exact outE _ _ (fin7 (.inr (.inr o7)) hz) hz
    · simp -dsimp -implicitDefEqProofs only [aw, slots0, V.copy, V.lend, V.lend1, V.cells, V.boxable, over, bldV, boundV, rowsOf, plains, V.plain, Nat.reduceLeDiff, cond_true, cond_false, implies_true, eq_self, ne_eq, reduceIte, reduceCtorEq, Nat.reduceBEq, Nat.reduceLT, Nat.reduceEqDiff, Nat.reduceAdd, Nat.reduceSub, Nat.reduceMul, decide_eq_false o1, decide_eq_false o6, decide_eq_false o7]
      exact Mid.mk ⟨.inl rfl, rfl, fun h => by omega⟩
  rintro ρ1 σ1 ⟨hρ, rfl, hz⟩
  rw [if_neg (fun ⟨h1, h2⟩ => h2 (hz h1))] at hn
  -- below
  refine awp_midT (fun ρ' σ' => ρ' = [(1, .d (.lit (.bool below))), (2, .ptr σ.length 0), (47, vbool false)] ∧ σ' = σ ++ [boxT s] ∧ (s.op = 6 → below = false)) ?_ ?_
  · by_cases o6 : s.op = 6
    · cases below with
      | true =>
        rcases hρ with rfl | rfl
        all_goals
          simp -dsimp -implicitDefEqProofs only [aw, slots0, V.copy, V.lend, V.lend1, V.cells, V.boxable, over, bldV, boundV, rowsOf, plains, V.plain, Nat.reduceLeDiff, cond_true, cond_false, implies_true, eq_self, ne_eq, reduceIte, reduceCtorEq, Nat.reduceBEq, Nat.reduceLT, Nat.reduceEqDiff, Nat.reduceAdd, Nat.reduceSub, Nat.reduceMul, decide_eq_true o6]
          exact outE 13 _ (by rw [hn, if_pos ⟨o6, rfl⟩]) (by omega)
      | false =>
        rcases hρ with rfl | rfl
        all_goals
          simp -dsimp -implicitDefEqProofs only [aw, slots0, V.copy, V.lend, V.lend1, V.cells, V.boxable, over, bldV, boundV, rowsOf, plains, V.plain, Nat.reduceLeDiff, cond_true, cond_false, implies_true, eq_self, ne_eq, reduceIte, reduceCtorEq, Nat.reduceBEq, Nat.reduceLT, Nat.reduceEqDiff, Nat.reduceAdd, Nat.reduceSub, Nat.reduceMul, decide_eq_true o6]
          exact Mid.mk ⟨rfl, rfl, fun _ => rfl⟩
    · rcases hρ with rfl | rfl
      all_goals
        simp -dsimp -implicitDefEqProofs only [aw, slots0, V.copy, V.lend, V.lend1, V.cells, V.boxable, over, bldV, boundV, rowsOf, plains, V.plain, Nat.reduceLeDiff, cond_true, cond_false, implies_true, eq_self, ne_eq, reduceIte, reduceCtorEq, Nat.reduceBEq, Nat.reduceLT, Nat.reduceEqDiff, Nat.reduceAdd, Nat.reduceSub, Nat.reduceMul, decide_eq_false o6]
        exact Mid.mk ⟨rfl, rfl, fun h => absurd h o6⟩
  rintro ρ1 σ1 ⟨rfl, rfl, hbl⟩
  rw [if_neg (fun ⟨h1, h2⟩ => by rw [hbl h1] at h2; cases h2)] at hn
  -- hold
  refine awp_midT (fun ρ' σ' => (ρ' = [(1, .d (.lit (.bool below))), (2, .ptr σ.length 0), (50, vbool false)] ∨ ∃ x y z, ρ' = [(1, .d (.lit (.bool below))), (2, .ptr σ.length 0), (6, x), (7, y), (8, z), (62, vbool false)]) ∧ σ' = σ ++ [boxT s] ∧ nodeT s below = 0) ?_ ?_
  · by_cases o7 : s.op = 7
    · have hlen := shape_one hsp (.inr o7)
      obtain ⟨a, ha⟩ := List.length_eq_one_iff.1 hlen
      have hmem : a ∈ s.args := by rw [ha]; simp
      have ha0 : s.arg0 = a := by unfold Ts.arg0; rw [ha]; rfl
      have hidx : iaV 9 (.d (.sl (s.args.map dts))) (V.d (D.lit (Value.int IntKind.i64 0))) = some (.row (dts a) 0) := by rw [ha]; simp [iaV, rowsV, dts_len]
      have hnl : (namesOf [2] s.ex).length ≤ 1000000 := by have := names_le s.ex; omega
      have hpl : (tpre a).length ≤ 1000000 := by have := tpre_len a; have := tszs_arg hmem; omega
      have hsets : ∀ σ, Fun G 34 [vts a, .nil] σ (RetV (.d (dstrs (tpre a))) σ) := fun σ => sets_nil a (by have := tbig_arg hmem; omega) (by have := tszs_arg hmem; omega) (by have := tdps_arg hmem; omega) σ
      rw [ha0] at hn
      simp -dsimp -implicitDefEqProofs only [aw, slots0, V.copy, V.lend, V.lend1, V.cells, V.boxable, over, bldV, boundV, rowsOf, plains, V.plain, Nat.reduceLeDiff, cond_true, cond_false, implies_true, eq_self, ne_eq, reduceIte, reduceCtorEq, Nat.reduceBEq, Nat.reduceLT, Nat.reduceEqDiff, Nat.reduceAdd, Nat.reduceSub, Nat.reduceMul, decide_eq_true o7]
      refine calm_ret (by simpa only [vex_eq] using fun_rnames s.ex (by omega) (by have := edepth_le s.ex; omega) _) ?_
      simp -dsimp -implicitDefEqProofs only [aw, slots0, V.copy, V.lend, V.lend1, V.cells, V.boxable, over, bldV, boundV, rowsOf, plains, V.plain, Nat.reduceLeDiff, cond_true, cond_false, implies_true, eq_self, ne_eq, reduceIte, reduceCtorEq, Nat.reduceBEq, Nat.reduceLT, Nat.reduceEqDiff, Nat.reduceAdd, Nat.reduceSub, Nat.reduceMul, hidx, dts_eq a]
      refine calm_ret (by simpa only [vts_eq] using hsets _) ?_
      simp -dsimp -implicitDefEqProofs only [aw, slots0, V.copy, V.lend, V.lend1, V.cells, V.boxable, over, bldV, boundV, rowsOf, plains, V.plain, Nat.reduceLeDiff, cond_true, cond_false, implies_true, eq_self, ne_eq, reduceIte, reduceCtorEq, Nat.reduceBEq, Nat.reduceLT, Nat.reduceEqDiff, Nat.reduceAdd, Nat.reduceSub, Nat.reduceMul, dstrs]
      generalize namesOf [2] s.ex = N at *
      refine awp_forK [1, 2, 6, 7, 8] (R := fun (j : Nat) ρ σ' => ρ = [(1, .d (.lit (.bool below))), (2, .ptr σ.length 0), (6, .d (.sl (N.map fun s => [dstr s]))), (7, .d (.sl ((tpre a).map fun s => [dstr s]))), (8, vint .i64 j)] ∧ σ' = σ ++ [boxT s] ∧ (N.any fun n => inB n (tpre a)) = (N.drop j).any fun n => inB n (tpre a)) N.length ⟨rfl, rfl, by simp⟩ ?_ _
      rintro j ρ' σ' hj ⟨rfl, rfl, hr⟩
      by_cases hlt : j < N.length
      · rw [any_drop hlt] at hr
        simp -dsimp -implicitDefEqProofs only [aw, slots0, V.copy, V.lend, V.lend1, V.cells, V.boxable, over, bldV, boundV, rowsOf, plains, V.plain, Nat.reduceLeDiff, cond_true, cond_false, implies_true, eq_self, ne_eq, reduceIte, reduceCtorEq, Nat.reduceBEq, Nat.reduceLT, Nat.reduceEqDiff, Nat.reduceAdd, Nat.reduceSub, Nat.reduceMul, Int.ofNat_lt, hlt, decide_true, List.getElem?_eq_getElem hlt]
        refine fun_ret (rhas_fun (tpre a) N[j] hpl _) ?_
        cases hx : inB N[j] (tpre a) with
        | true =>
          rw [hx, Bool.true_or] at hr
          simp -dsimp -implicitDefEqProofs only [aw, slots0, V.copy, V.lend, V.lend1, V.cells, V.boxable, over, bldV, boundV, rowsOf, plains, V.plain, Nat.reduceLeDiff, cond_true, cond_false, implies_true, eq_self, ne_eq, reduceIte, reduceCtorEq, Nat.reduceBEq, Nat.reduceLT, Nat.reduceEqDiff, Nat.reduceAdd, Nat.reduceSub, Nat.reduceMul]
          exact outE 13 _ (by rw [hn, if_pos ⟨o7, hr⟩]) (by omega)
        | false =>
          rw [hx, Bool.false_or] at hr
          simp -dsimp -implicitDefEqProofs only [aw, slots0, V.copy, V.lend, V.lend1, V.cells, V.boxable, over, bldV, boundV, rowsOf, plains, V.plain, Nat.reduceLeDiff, cond_true, cond_false, implies_true, eq_self, ne_eq, reduceIte, reduceCtorEq, Nat.reduceBEq, Nat.reduceLT, Nat.reduceEqDiff, Nat.reduceAdd, Nat.reduceSub, Nat.reduceMul, wrap_nat hlt (show N.length ≤ 9223372036854775807 by omega)]
          exact ⟨hlt, Nxt.same (by simp) (boxesBelow_app hb rfl) (by simp [slotsBelow, V.under]) ⟨rfl, rfl, hr⟩⟩
      · simp -dsimp -implicitDefEqProofs only [aw, slots0, V.copy, V.lend, V.lend1, V.cells, V.boxable, over, bldV, boundV, rowsOf, plains, V.plain, Nat.reduceLeDiff, cond_true, cond_false, implies_true, eq_self, ne_eq, reduceIte, reduceCtorEq, Nat.reduceBEq, Nat.reduceLT, Nat.reduceEqDiff, Nat.reduceAdd, Nat.reduceSub, Nat.reduceMul, Int.ofNat_lt, hlt, decide_false]
        rw [List.drop_eq_nil_of_le (by omega)] at hr
        exact Mid.mk ⟨.inr ⟨_, _, _, rfl⟩, rfl, by rw [hn, hr]; simp⟩
    · simp -dsimp -implicitDefEqProofs only [aw, slots0, V.copy, V.lend, V.lend1, V.cells, V.boxable, over, bldV, boundV, rowsOf, plains, V.plain, Nat.reduceLeDiff, cond_true, cond_false, implies_true, eq_self, ne_eq, reduceIte, reduceCtorEq, Nat.reduceBEq, Nat.reduceLT, Nat.reduceEqDiff, Nat.reduceAdd, Nat.reduceSub, Nat.reduceMul, decide_eq_false o7]
      exact Mid.mk ⟨.inl rfl, rfl, by rw [hn, if_neg (fun h => o7 h.1)]⟩
  rintro ρ1 σ1 ⟨hρ, rfl, h0⟩
  rw [if_pos h0] at hq
  rcases hρ with rfl | ⟨x, y, z, rfl⟩
  all_goals
    simp -dsimp -implicitDefEqProofs only [aw, slots0, V.copy, V.lend, V.lend1, V.cells, V.boxable, over, bldV, boundV, rowsOf, plains, V.plain, Nat.reduceLeDiff, cond_true, cond_false, implies_true, eq_self, ne_eq, reduceIte, reduceCtorEq, Nat.reduceBEq, Nat.reduceLT, Nat.reduceEqDiff, Nat.reduceAdd, Nat.reduceSub, Nat.reduceMul]
    refine awp_forK [1, 2, 9] (R := fun (j : Nat) ρ σ' => ρ = [(1, .d (.lit (.bool below))), (2, .ptr σ.length 0), (9, vint .i64 j)] ∧ σ' = σ ++ [boxT s] ∧ checkT s below = checkTs (s.args.drop j) (below || decide (s.op = 5))) s.args.length ⟨rfl, rfl, by rw [List.drop_zero]; exact hq⟩ ?_ _
    rintro j ρ' σ' hj ⟨rfl, rfl, hrec⟩
    by_cases hlt : j < s.args.length
    · rw [List.drop_eq_getElem_cons hlt] at hrec
      simp only [checkTs] at hrec
      have hmem := List.getElem_mem hlt
      have ihj := ih s.args[j] hmem (below || decide (s.op = 5)) (by have := tbig_arg hmem; omega) (by have := tszs_arg hmem; omega) (by have := tdps_arg hmem; omega)
      cases below with
      | true =>
        rw [Bool.true_or] at hrec ihj
        simp -dsimp -implicitDefEqProofs only [aw, slots0, V.copy, V.lend, V.lend1, V.cells, V.boxable, over, bldV, boundV, rowsOf, plains, V.plain, Nat.reduceLeDiff, cond_true, cond_false, implies_true, eq_self, ne_eq, reduceIte, reduceCtorEq, Nat.reduceBEq, Nat.reduceLT, Nat.reduceEqDiff, Nat.reduceAdd, Nat.reduceSub, Nat.reduceMul, Int.ofNat_lt, hlt, decide_true, List.getElem?_eq_getElem hlt, dts_eq s.args[j]]
        refine calm_ret (by simpa only [vts_eq] using ihj _) ?_
        by_cases h1 : checkT s.args[j] true = 0
        · rw [if_pos h1] at hrec
          simp -dsimp -implicitDefEqProofs only [aw, slots0, V.copy, V.lend, V.lend1, V.cells, V.boxable, over, bldV, boundV, rowsOf, plains, V.plain, Nat.reduceLeDiff, cond_true, cond_false, implies_true, eq_self, ne_eq, reduceIte, reduceCtorEq, Nat.reduceBEq, Nat.reduceLT, Nat.reduceEqDiff, Nat.reduceAdd, Nat.reduceSub, Nat.reduceMul, h1, Int.reduceEq, decide_true, decide_false, wrap_nat hlt (show s.args.length ≤ 9223372036854775807 by omega)]
          exact ⟨hlt, Nxt.same (by simp) (boxesBelow_app hb rfl) (by simp [slotsBelow, V.under]) ⟨rfl, rfl, by rw [Bool.true_or]; exact hrec⟩⟩
        · rw [if_neg h1] at hrec
          simp -dsimp -implicitDefEqProofs only [aw, slots0, V.copy, V.lend, V.lend1, V.cells, V.boxable, over, bldV, boundV, rowsOf, plains, V.plain, Nat.reduceLeDiff, cond_true, cond_false, implies_true, eq_self, ne_eq, reduceIte, reduceCtorEq, Nat.reduceBEq, Nat.reduceLT, Nat.reduceEqDiff, Nat.reduceAdd, Nat.reduceSub, Nat.reduceMul, decide_eq_false h1]
          exact out _ _ hrec
      | false =>
        rw [Bool.false_or] at hrec ihj
        simp -dsimp -implicitDefEqProofs only [aw, slots0, V.copy, V.lend, V.lend1, V.cells, V.boxable, over, bldV, boundV, rowsOf, plains, V.plain, Nat.reduceLeDiff, cond_true, cond_false, implies_true, eq_self, ne_eq, reduceIte, reduceCtorEq, Nat.reduceBEq, Nat.reduceLT, Nat.reduceEqDiff, Nat.reduceAdd, Nat.reduceSub, Nat.reduceMul, Int.ofNat_lt, hlt, decide_true, List.getElem?_eq_getElem hlt, dts_eq s.args[j]]
        refine calm_ret (by simpa only [vts_eq] using ihj _) ?_
        by_cases h1 : checkT s.args[j] (decide (s.op = 5)) = 0
        · rw [if_pos h1] at hrec
          simp -dsimp -implicitDefEqProofs only [aw, slots0, V.copy, V.lend, V.lend1, V.cells, V.boxable, over, bldV, boundV, rowsOf, plains, V.plain, Nat.reduceLeDiff, cond_true, cond_false, implies_true, eq_self, ne_eq, reduceIte, reduceCtorEq, Nat.reduceBEq, Nat.reduceLT, Nat.reduceEqDiff, Nat.reduceAdd, Nat.reduceSub, Nat.reduceMul, h1, Int.reduceEq, decide_true, decide_false, wrap_nat hlt (show s.args.length ≤ 9223372036854775807 by omega)]
          exact ⟨hlt, Nxt.same (by simp) (boxesBelow_app hb rfl) (by simp [slotsBelow, V.under]) ⟨rfl, rfl, by rw [Bool.false_or]; exact hrec⟩⟩
        · rw [if_neg h1] at hrec
          simp -dsimp -implicitDefEqProofs only [aw, slots0, V.copy, V.lend, V.lend1, V.cells, V.boxable, over, bldV, boundV, rowsOf, plains, V.plain, Nat.reduceLeDiff, cond_true, cond_false, implies_true, eq_self, ne_eq, reduceIte, reduceCtorEq, Nat.reduceBEq, Nat.reduceLT, Nat.reduceEqDiff, Nat.reduceAdd, Nat.reduceSub, Nat.reduceMul, decide_eq_false h1]
          exact out _ _ hrec
    · simp -dsimp -implicitDefEqProofs only [aw, slots0, V.copy, V.lend, V.lend1, V.cells, V.boxable, over, bldV, boundV, rowsOf, plains, V.plain, Nat.reduceLeDiff, cond_true, cond_false, implies_true, eq_self, ne_eq, reduceIte, reduceCtorEq, Nat.reduceBEq, Nat.reduceLT, Nat.reduceEqDiff, Nat.reduceAdd, Nat.reduceSub, Nat.reduceMul, Int.ofNat_lt, hlt, decide_false]
      rw [List.drop_eq_nil_of_le (by omega)] at hrec
      exact out 0 _ (by rw [hrec]; rfl)
theorem rvalid39_fun (s : Ts) (hs : tbig s ≤ 1000000) (σ : List (List V)) : Fun G 9 [vts s] σ (RetV (.d (dint (validT s))) σ) := by
  refine fun_code Tryz.func9 k9 (by simp only [vts_eq]; rfl) fun hb hw => ?_
  unfold c9
  have out : ∀ (n : Int) (l : List (List V)), validT s = n → fin σ.length rs9 (RetV (.d (dint (validT s))) σ) .ret [(2, .d (.lit (.int .i64 n)))] (σ ++ l) := fun n l h => by
    rw [h]; exact fin_ret hb rfl rfl List.take_left ⟨rfl, rfl⟩
  simp -dsimp -implicitDefEqProofs only [aw, slots0, V.copy, V.lend, V.lend1, V.cells, V.boxable, over, bldV, boundV, rowsOf, plains, V.plain, Nat.reduceLeDiff, cond_true, cond_false, implies_true, eq_self, ne_eq, reduceIte, reduceCtorEq, Nat.reduceBEq, Nat.reduceLT, Nat.reduceEqDiff, Nat.reduceAdd, Nat.reduceSub, Nat.reduceMul, vts_eq]
  refine fun_ret (by simpa only [vts_eq] using room_fun s 100 8 hs (by omega) (by omega) (by omega) (by omega) _) ?_
  by_cases h1 : 8 < tdp s ∨ 100 < tsz s
  · rw [roomV_no h1]
    simp -dsimp -implicitDefEqProofs only [aw, slots0, V.copy, V.lend, V.lend1, V.cells, V.boxable, over, bldV, boundV, rowsOf, plains, V.plain, Nat.reduceLeDiff, cond_true, cond_false, implies_true, eq_self, ne_eq, reduceIte, reduceCtorEq, Nat.reduceBEq, Nat.reduceLT, Nat.reduceEqDiff, Nat.reduceAdd, Nat.reduceSub, Nat.reduceMul, Int.reduceLT, decide_true]
    exact out 2 _ (by unfold validT; rw [if_pos h1])
  · have h2 := roomV_ok (s := s) (by omega) (by omega)
    have h3 : ¬ roomV s 100 8 < 0 := by omega
    simp -dsimp -implicitDefEqProofs only [aw, slots0, V.copy, V.lend, V.lend1, V.cells, V.boxable, over, bldV, boundV, rowsOf, plains, V.plain, Nat.reduceLeDiff, cond_true, cond_false, implies_true, eq_self, ne_eq, reduceIte, reduceCtorEq, Nat.reduceBEq, Nat.reduceLT, Nat.reduceEqDiff, Nat.reduceAdd, Nat.reduceSub, Nat.reduceMul, decide_eq_false h3]
    refine fun_ret (by simpa only [vts_eq] using wrong_fun s false hs (by omega) (by omega) _) ?_
    simp -dsimp -implicitDefEqProofs only [aw, slots0, V.copy, V.lend, V.lend1, V.cells, V.boxable, over, bldV, boundV, rowsOf, plains, V.plain, Nat.reduceLeDiff, cond_true, cond_false, implies_true, eq_self, ne_eq, reduceIte, reduceCtorEq, Nat.reduceBEq, Nat.reduceLT, Nat.reduceEqDiff, Nat.reduceAdd, Nat.reduceSub, Nat.reduceMul]
    exact out _ _ (by unfold validT; rw [if_neg h1])
end Go.Proofs.YtbhippphcmkjnaaGreatDoor
