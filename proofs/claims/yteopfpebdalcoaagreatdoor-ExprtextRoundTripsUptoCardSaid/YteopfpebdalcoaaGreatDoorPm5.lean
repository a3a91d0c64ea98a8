/-
  The parser of expressions: prefixes.
-/
import Derived.Test.YteopfpebdalcoaaGreatDoorPm4
set_option linter.unusedVariables false
set_option linter.unusedSimpArgs false
set_option linter.unusedSectionVars false
namespace Go.Proofs.YteopfpebdalcoaaGreatDoor
open Go.RowKit
def preM (j : Nat) : ByteArray := if j = 0 then mark1 33 else if j = 1 then mark1 126 else mark1 45
set_option maxHeartbeats 1000000 in
theorem unary_fun (ts : List Tok) (a i : Nat) (hz : ∀ t, t ∈ ts → t.text.size ≤ 1000) (hn : ts.length ≤ 1000000) (ha : a ≤ ts.length)
    (hP : ∀ σ : List (List V), σ[i]? = some (pb ts a) → Fun G 152 [.ptr i 0] σ (PQ ts i σ (par .P (ts.drop a))))
    (hU : ∀ b, a < b → b ≤ ts.length → ∀ σ : List (List V), σ[i]? = some (pb ts b) → Fun G 136 [.ptr i 0] σ (PQ ts i σ (par .U (ts.drop b))))
    (σ : List (List V)) (hi : σ[i]? = some (pb ts a)) : Fun G 136 [.ptr i 0] σ (PQ ts i σ (par .U (ts.drop a))) := by
  have hlt := (List.getElem?_eq_some_iff.1 hi).1
  refine fun_code Tryz.func136 k136 rfl fun hb hw => ?_
  delta c136 oM oV kI kS kT kF
  have hP' := fun l => hP (σ ++ l) (box_old hi l)
  have hA := fun m l => accept_fun m ts a i hz hn ha (σ ++ l) (box_old hi l)
  have hpar := par_eq .U (ts.drop a)
  simp only [stepP, acc_sees] at hpar
  simp -dsimp -implicitDefEqProofs only [aw, slots0, V.copy, V.lend, V.cells, rowsOf, plains, V.plain, eq_self, reduceIte, reduceCtorEq, Nat.reduceBEq, Nat.reduceLT, Nat.reduceEqDiff, Nat.reduceAdd]
  refine awp_forK [0, 2, 5, 6, 7] (R := fun (j : Nat) ρ σ' => ρ = [(0, .ptr i 0), (2, .ptr σ.length 0), (5, .d (.sl [[dint 4], [dint 5], [dint 6]])), (6, .d (dint 3)), (7, vint .i64 j)] ∧ σ' = σ ++ [[.d (dint 0), .d (dint 0), .d (dstr ⟨#[]⟩), .nil]] ∧ ∀ q, q < j → seesB (preM q) ts a = false) 3 ⟨rfl, rfl, fun q h => by omega⟩ ?_ _
  rintro j ρ' σ' hj ⟨rfl, rfl, hno⟩
  have hj4 : j = 0 ∨ j = 1 ∨ j = 2 ∨ j = 3 := by omega
  rcases hj4 with rfl | rfl | rfl | rfl
  · -- 4
    have e0 : iaV 1 (V.d (.sl [[dint 4], [dint 5], [dint 6]])) (vint .i64 ((0 : Nat) : Int)) = some (.row [dint 4] 0) := rfl
    have hc : decide (((0 : Nat) : Int) < 3) = true := rfl
    simp -dsimp -implicitDefEqProofs only [aw, V.copy, V.lend, Nat.reduceLeDiff, eq_self, reduceIte, reduceCtorEq, Nat.reduceBEq, Nat.reduceLT, Nat.reduceEqDiff, e0, hc]
    refine fun_ret (prefix_fun 4 _) ?_
    simp -dsimp -implicitDefEqProofs only [aw, V.lend, eq_self, reduceIte, reduceCtorEq, Nat.reduceLT, Nat.reduceEqDiff]
    refine fun_set (hA _ _) ?_
    have hm : bs (preS 4) = preM 0 := rfl
    rw [hm]
    cases hs : seesB (preM 0) ts a with
    | true =>
      have hs' : seesB (mark1 33) ts a = true := hs
      have ha2 : a + 1 ≤ ts.length := by
        apply Classical.byContradiction
        intro h
        rw [sees_ge (by omega)] at hs; cases hs
      obtain ⟨σ2, hs2⟩ : ∃ x, x = σ.set i (pb ts (a + 1)) := ⟨_, rfl⟩
      have hl2 : σ2.length = σ.length := by rw [hs2, List.length_set]
      have hb2 : boxesBelow σ2.length σ2 = true := by rw [hl2, hs2]; exact pb_below hb i ts _
      have hi2 : σ2[i]? = some (pb ts (a + 1)) := by rw [hs2, List.getElem?_set_self (by omega)]
      have hall : ∀ X : List V, σ2.set i X = σ.set i X := fun X => by rw [hs2, List.set_set]
      rw [if_pos rfl, set_old hi, ← hs2]
      rw [← hl2]
      simp -dsimp -implicitDefEqProofs only [aw, V.copy, V.lend, eq_self, reduceIte, reduceCtorEq, Nat.reduceBEq, Nat.reduceLT, Nat.reduceEqDiff]
      refine fun_mono (hU (a + 1) (by omega) ha2 _ (box_old hi2 _)) fun o σ' hq => ?_
      simp only [hs', if_true] at hpar
      rw [hpar]
      cases hx : par .U (ts.drop (a + 1)) with
      | out => exact absurd hx (par_ne _ _)
      | bad c r =>
        rw [hx] at hq
        obtain ⟨rfl, b, rfl⟩ := hq
        rw [set_old hi2]
        simp -dsimp -implicitDefEqProofs only [aw, V.copy, V.lend, V.cells, rowsOf, eq_self, reduceIte, reduceCtorEq, Nat.reduceBEq, Nat.reduceLT, Nat.reduceEqDiff, retK_pan]
        exact fin_pan (τ := σ2.set i (pb ts b)) (pb_below hb2 i ts b) (take_set_app _ _ _) rfl ⟨rfl, b, hall _⟩
      | ok e r =>
        rw [hx] at hq
        obtain ⟨rfl, rfl⟩ := hq
        obtain ⟨σ3, hs3⟩ : ∃ x, x = σ2.set i (pb ts (ts.length - r.length)) := ⟨_, rfl⟩
        have hl3 : σ3.length = σ2.length := by rw [hs3, List.length_set]
        have hb3 : boxesBelow σ3.length σ3 = true := by rw [hl3, hs3]; exact pb_below hb2 i ts _
        have hN := node_fun 4 [e]
        have hQ : PQ ts i σ ((PR.ok e r).bind fun a r2 => .ok (nodeE 4 [a]) r2) (.ret (vex (nodeE 4 [e]))) σ3 := ⟨rfl, by rw [hs3]; exact hall _⟩
        rw [set_old hi2, ← hs3]
        rw [← hl3]
        simp -dsimp -implicitDefEqProofs only [aw, V.copy, V.lend, V.cells, rowsOf, plains, V.plain, eq_self, reduceIte, reduceCtorEq, Nat.reduceBEq, Nat.reduceLT, Nat.reduceEqDiff, Nat.reduceAdd, retK_ret, vex_eq]
        refine fun_ret (by simpa only [List.map_cons, List.map_nil, dex_eq] using hN _) ?_
        simp -dsimp -implicitDefEqProofs only [aw, V.copy, V.lend, V.cells, V.boxable, over, Nat.reduceLeDiff, eq_self, reduceIte, reduceCtorEq, Nat.reduceBEq, Nat.reduceLT, Nat.reduceEqDiff, Nat.reduceAdd, vex_eq, nodeE, mk_op, mk_num, mk_name, mk_args]
        exact fin_set (τ := σ3) hb3 (v := vex (nodeE 4 [e])) (by rw [vex_eq]; simp [rs136, resV, res1, nodeE, mk_op, mk_num, mk_name, mk_args, dex_eq, aw, V.copy, V.lend, V.lend1, eq_self, reduceIte, Nat.reduceAdd]) (by rw [vex_eq]; rfl) List.take_left hQ
    | false =>
      simp -dsimp -implicitDefEqProofs only [aw, V.copy, V.lend, eq_self, reduceIte, reduceCtorEq, Nat.reduceBEq, Nat.reduceLT, Nat.reduceEqDiff, if_false, wrap_i64 (show -9223372036854775808 ≤ ((0 : Nat) : Int) + 1 by omega) (show ((0 : Nat) : Int) + 1 ≤ 9223372036854775807 by omega)]
      exact Nxt.to (σ ++ [[.d (dint 0), .d (dint 0), .d (dstr ⟨#[]⟩), .nil]]) [] (by simp) (by simp) (boxesBelow_app hb rfl) (by simp [slotsBelow, V.under]; try omega) ⟨rfl, rfl, fun q hq => by
        by_cases e : q = 0
        · subst e; exact hs
        · exact hno q (by omega)⟩
  · -- 5
    have e0 : iaV 1 (V.d (.sl [[dint 4], [dint 5], [dint 6]])) (vint .i64 ((1 : Nat) : Int)) = some (.row [dint 5] 0) := rfl
    have hc : decide (((1 : Nat) : Int) < 3) = true := rfl
    simp -dsimp -implicitDefEqProofs only [aw, V.copy, V.lend, Nat.reduceLeDiff, eq_self, reduceIte, reduceCtorEq, Nat.reduceBEq, Nat.reduceLT, Nat.reduceEqDiff, e0, hc]
    refine fun_ret (prefix_fun 5 _) ?_
    simp -dsimp -implicitDefEqProofs only [aw, V.lend, eq_self, reduceIte, reduceCtorEq, Nat.reduceLT, Nat.reduceEqDiff]
    refine fun_set (hA _ _) ?_
    have hm : bs (preS 5) = preM 1 := rfl
    rw [hm]
    have f0 : seesB (mark1 33) ts a = false := hno 0 (by omega)
    cases hs : seesB (preM 1) ts a with
    | true =>
      have hs' : seesB (mark1 126) ts a = true := hs
      have ha2 : a + 1 ≤ ts.length := by
        apply Classical.byContradiction
        intro h
        rw [sees_ge (by omega)] at hs; cases hs
      obtain ⟨σ2, hs2⟩ : ∃ x, x = σ.set i (pb ts (a + 1)) := ⟨_, rfl⟩
      have hl2 : σ2.length = σ.length := by rw [hs2, List.length_set]
      have hb2 : boxesBelow σ2.length σ2 = true := by rw [hl2, hs2]; exact pb_below hb i ts _
      have hi2 : σ2[i]? = some (pb ts (a + 1)) := by rw [hs2, List.getElem?_set_self (by omega)]
      have hall : ∀ X : List V, σ2.set i X = σ.set i X := fun X => by rw [hs2, List.set_set]
      rw [if_pos rfl, set_old hi, ← hs2]
      rw [← hl2]
      simp -dsimp -implicitDefEqProofs only [aw, V.copy, V.lend, eq_self, reduceIte, reduceCtorEq, Nat.reduceBEq, Nat.reduceLT, Nat.reduceEqDiff]
      refine fun_mono (hU (a + 1) (by omega) ha2 _ (box_old hi2 _)) fun o σ' hq => ?_
      simp only [f0, hs', if_true, if_false, Bool.false_eq_true] at hpar
      rw [hpar]
      cases hx : par .U (ts.drop (a + 1)) with
      | out => exact absurd hx (par_ne _ _)
      | bad c r =>
        rw [hx] at hq
        obtain ⟨rfl, b, rfl⟩ := hq
        rw [set_old hi2]
        simp -dsimp -implicitDefEqProofs only [aw, V.copy, V.lend, V.cells, rowsOf, eq_self, reduceIte, reduceCtorEq, Nat.reduceBEq, Nat.reduceLT, Nat.reduceEqDiff, retK_pan]
        exact fin_pan (τ := σ2.set i (pb ts b)) (pb_below hb2 i ts b) (take_set_app _ _ _) rfl ⟨rfl, b, hall _⟩
      | ok e r =>
        rw [hx] at hq
        obtain ⟨rfl, rfl⟩ := hq
        obtain ⟨σ3, hs3⟩ : ∃ x, x = σ2.set i (pb ts (ts.length - r.length)) := ⟨_, rfl⟩
        have hl3 : σ3.length = σ2.length := by rw [hs3, List.length_set]
        have hb3 : boxesBelow σ3.length σ3 = true := by rw [hl3, hs3]; exact pb_below hb2 i ts _
        have hN := node_fun 5 [e]
        have hQ : PQ ts i σ ((PR.ok e r).bind fun a r2 => .ok (nodeE 5 [a]) r2) (.ret (vex (nodeE 5 [e]))) σ3 := ⟨rfl, by rw [hs3]; exact hall _⟩
        rw [set_old hi2, ← hs3]
        rw [← hl3]
        simp -dsimp -implicitDefEqProofs only [aw, V.copy, V.lend, V.cells, rowsOf, plains, V.plain, eq_self, reduceIte, reduceCtorEq, Nat.reduceBEq, Nat.reduceLT, Nat.reduceEqDiff, Nat.reduceAdd, retK_ret, vex_eq]
        refine fun_ret (by simpa only [List.map_cons, List.map_nil, dex_eq] using hN _) ?_
        simp -dsimp -implicitDefEqProofs only [aw, V.copy, V.lend, V.cells, V.boxable, over, Nat.reduceLeDiff, eq_self, reduceIte, reduceCtorEq, Nat.reduceBEq, Nat.reduceLT, Nat.reduceEqDiff, Nat.reduceAdd, vex_eq, nodeE, mk_op, mk_num, mk_name, mk_args]
        exact fin_set (τ := σ3) hb3 (v := vex (nodeE 5 [e])) (by rw [vex_eq]; simp [rs136, resV, res1, nodeE, mk_op, mk_num, mk_name, mk_args, dex_eq, aw, V.copy, V.lend, V.lend1, eq_self, reduceIte, Nat.reduceAdd]) (by rw [vex_eq]; rfl) List.take_left hQ
    | false =>
      simp -dsimp -implicitDefEqProofs only [aw, V.copy, V.lend, eq_self, reduceIte, reduceCtorEq, Nat.reduceBEq, Nat.reduceLT, Nat.reduceEqDiff, if_false, wrap_i64 (show -9223372036854775808 ≤ ((1 : Nat) : Int) + 1 by omega) (show ((1 : Nat) : Int) + 1 ≤ 9223372036854775807 by omega)]
      exact Nxt.to (σ ++ [[.d (dint 0), .d (dint 0), .d (dstr ⟨#[]⟩), .nil]]) [] (by simp) (by simp) (boxesBelow_app hb rfl) (by simp [slotsBelow, V.under]; try omega) ⟨rfl, rfl, fun q hq => by
        by_cases e : q = 1
        · subst e; exact hs
        · exact hno q (by omega)⟩
  · -- 6
    have e0 : iaV 1 (V.d (.sl [[dint 4], [dint 5], [dint 6]])) (vint .i64 ((2 : Nat) : Int)) = some (.row [dint 6] 0) := rfl
    have hc : decide (((2 : Nat) : Int) < 3) = true := rfl
    simp -dsimp -implicitDefEqProofs only [aw, V.copy, V.lend, Nat.reduceLeDiff, eq_self, reduceIte, reduceCtorEq, Nat.reduceBEq, Nat.reduceLT, Nat.reduceEqDiff, e0, hc]
    refine fun_ret (prefix_fun 6 _) ?_
    simp -dsimp -implicitDefEqProofs only [aw, V.lend, eq_self, reduceIte, reduceCtorEq, Nat.reduceLT, Nat.reduceEqDiff]
    refine fun_set (hA _ _) ?_
    have hm : bs (preS 6) = preM 2 := rfl
    rw [hm]
    have f0 : seesB (mark1 33) ts a = false := hno 0 (by omega)
    have f1 : seesB (mark1 126) ts a = false := hno 1 (by omega)
    cases hs : seesB (preM 2) ts a with
    | true =>
      have hs' : seesB (mark1 45) ts a = true := hs
      have ha2 : a + 1 ≤ ts.length := by
        apply Classical.byContradiction
        intro h
        rw [sees_ge (by omega)] at hs; cases hs
      obtain ⟨σ2, hs2⟩ : ∃ x, x = σ.set i (pb ts (a + 1)) := ⟨_, rfl⟩
      have hl2 : σ2.length = σ.length := by rw [hs2, List.length_set]
      have hb2 : boxesBelow σ2.length σ2 = true := by rw [hl2, hs2]; exact pb_below hb i ts _
      have hi2 : σ2[i]? = some (pb ts (a + 1)) := by rw [hs2, List.getElem?_set_self (by omega)]
      have hall : ∀ X : List V, σ2.set i X = σ.set i X := fun X => by rw [hs2, List.set_set]
      rw [if_pos rfl, set_old hi, ← hs2]
      rw [← hl2]
      simp -dsimp -implicitDefEqProofs only [aw, V.copy, V.lend, eq_self, reduceIte, reduceCtorEq, Nat.reduceBEq, Nat.reduceLT, Nat.reduceEqDiff]
      refine fun_mono (hU (a + 1) (by omega) ha2 _ (box_old hi2 _)) fun o σ' hq => ?_
      simp only [f0, f1, hs', if_true, if_false, Bool.false_eq_true] at hpar
      rw [hpar]
      cases hx : par .U (ts.drop (a + 1)) with
      | out => exact absurd hx (par_ne _ _)
      | bad c r =>
        rw [hx] at hq
        obtain ⟨rfl, b, rfl⟩ := hq
        rw [set_old hi2]
        simp -dsimp -implicitDefEqProofs only [aw, V.copy, V.lend, V.cells, rowsOf, eq_self, reduceIte, reduceCtorEq, Nat.reduceBEq, Nat.reduceLT, Nat.reduceEqDiff, retK_pan]
        exact fin_pan (τ := σ2.set i (pb ts b)) (pb_below hb2 i ts b) (take_set_app _ _ _) rfl ⟨rfl, b, hall _⟩
      | ok e r =>
        rw [hx] at hq
        obtain ⟨rfl, rfl⟩ := hq
        obtain ⟨σ3, hs3⟩ : ∃ x, x = σ2.set i (pb ts (ts.length - r.length)) := ⟨_, rfl⟩
        have hl3 : σ3.length = σ2.length := by rw [hs3, List.length_set]
        have hb3 : boxesBelow σ3.length σ3 = true := by rw [hl3, hs3]; exact pb_below hb2 i ts _
        have hN := node_fun 6 [e]
        have hQ : PQ ts i σ ((PR.ok e r).bind fun a r2 => .ok (nodeE 6 [a]) r2) (.ret (vex (nodeE 6 [e]))) σ3 := ⟨rfl, by rw [hs3]; exact hall _⟩
        rw [set_old hi2, ← hs3]
        rw [← hl3]
        simp -dsimp -implicitDefEqProofs only [aw, V.copy, V.lend, V.cells, rowsOf, plains, V.plain, eq_self, reduceIte, reduceCtorEq, Nat.reduceBEq, Nat.reduceLT, Nat.reduceEqDiff, Nat.reduceAdd, retK_ret, vex_eq]
        refine fun_ret (by simpa only [List.map_cons, List.map_nil, dex_eq] using hN _) ?_
        simp -dsimp -implicitDefEqProofs only [aw, V.copy, V.lend, V.cells, V.boxable, over, Nat.reduceLeDiff, eq_self, reduceIte, reduceCtorEq, Nat.reduceBEq, Nat.reduceLT, Nat.reduceEqDiff, Nat.reduceAdd, vex_eq, nodeE, mk_op, mk_num, mk_name, mk_args]
        exact fin_set (τ := σ3) hb3 (v := vex (nodeE 6 [e])) (by rw [vex_eq]; simp [rs136, resV, res1, nodeE, mk_op, mk_num, mk_name, mk_args, dex_eq, aw, V.copy, V.lend, V.lend1, eq_self, reduceIte, Nat.reduceAdd]) (by rw [vex_eq]; rfl) List.take_left hQ
    | false =>
      simp -dsimp -implicitDefEqProofs only [aw, V.copy, V.lend, eq_self, reduceIte, reduceCtorEq, Nat.reduceBEq, Nat.reduceLT, Nat.reduceEqDiff, if_false, wrap_i64 (show -9223372036854775808 ≤ ((2 : Nat) : Int) + 1 by omega) (show ((2 : Nat) : Int) + 1 ≤ 9223372036854775807 by omega)]
      exact Nxt.to (σ ++ [[.d (dint 0), .d (dint 0), .d (dstr ⟨#[]⟩), .nil]]) [] (by simp) (by simp) (boxesBelow_app hb rfl) (by simp [slotsBelow, V.under]; try omega) ⟨rfl, rfl, fun q hq => by
        by_cases e : q = 2
        · subst e; exact hs
        · exact hno q (by omega)⟩
  · have f0 : seesB (mark1 33) ts a = false := hno 0 (by omega)
    have f1 : seesB (mark1 126) ts a = false := hno 1 (by omega)
    have f2 : seesB (mark1 45) ts a = false := hno 2 (by omega)
    have hc : decide (((3 : Nat) : Int) < 3) = false := rfl
    simp only [f0, f1, f2, if_false, Bool.false_eq_true] at hpar
    rw [hpar]
    simp -dsimp -implicitDefEqProofs only [aw, V.copy, V.lend, eq_self, reduceIte, reduceCtorEq, Nat.reduceBEq, Nat.reduceLT, Nat.reduceEqDiff, hc]
    refine fun_mono (hP' _) fun o σ' hq => ?_
    cases hx : par .P (ts.drop a) with
    | out => exact absurd hx (par_ne _ _)
    | bad c r =>
      rw [hx] at hq
      obtain ⟨rfl, b, rfl⟩ := hq
      rw [set_old hi]
      simp -dsimp -implicitDefEqProofs only [aw, eq_self, reduceIte, reduceCtorEq, Nat.reduceBEq, Nat.reduceLT, Nat.reduceEqDiff, retK_pan]
      exact fin_pan (τ := σ.set i (pb ts b)) (pb_below hb i ts b) (take_set_app _ _ _) rfl ⟨rfl, b, rfl⟩
    | ok e r =>
      rw [hx] at hq
      obtain ⟨rfl, rfl⟩ := hq
      obtain ⟨σ3, hs3⟩ : ∃ x, x = σ.set i (pb ts (ts.length - r.length)) := ⟨_, rfl⟩
      have hl3 : σ3.length = σ.length := by rw [hs3, List.length_set]
      have hb3 : boxesBelow σ3.length σ3 = true := by rw [hl3, hs3]; exact pb_below hb i ts _
      have hQ : PQ ts i σ (PR.ok e r) (.ret (vex e)) σ3 := ⟨rfl, hs3⟩
      rw [set_old hi, ← hs3]
      rw [← hl3]
      simp -dsimp -implicitDefEqProofs only [aw, V.copy, V.cells, V.boxable, over, Nat.reduceLeDiff, eq_self, reduceIte, reduceCtorEq, Nat.reduceBEq, Nat.reduceLT, Nat.reduceEqDiff, Nat.reduceAdd, retK_ret, vex_eq]
      exact fin_set (τ := σ3) hb3 (v := vex e) (by rw [vex_eq]; simp [rs136, resV, res1, aw, V.copy, V.lend, V.lend1, eq_self, reduceIte, Nat.reduceAdd]) (by rw [vex_eq]; rfl) List.take_left hQ
end Go.Proofs.YteopfpebdalcoaaGreatDoor
