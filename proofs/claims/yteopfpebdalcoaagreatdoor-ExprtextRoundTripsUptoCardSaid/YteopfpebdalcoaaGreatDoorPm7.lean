/-
  The parser of expressions: the ranges of a set.
-/
import Derived.Test.YteopfpebdalcoaaGreatDoorPm6
set_option linter.unusedVariables false
set_option linter.unusedSimpArgs false
set_option linter.unusedSectionVars false
namespace Go.Proofs.YteopfpebdalcoaaGreatDoor
open Go.RowKit
set_option maxHeartbeats 4000000 in
theorem inside_fun (ts : List Tok) (a i : Nat) (H : TsOK ts) (ha : a ≤ ts.length) (a0 : Ex)
    (hW : ∀ b, a < b → b ≤ ts.length → ∀ σ : List (List V), σ[i]? = some (pb ts b) → Fun G 48 [.ptr i 0] σ (PQ ts i σ (par .W (ts.drop b))))
    (σ : List (List V)) (hi : σ[i]? = some (pb ts a)) : Fun G 137 [.ptr i 0, vex a0] σ (PQ ts i σ (par (.In a0) (ts.drop a))) := by
  refine fun_code Tryz.func137 k137 (by simp only [vex_eq]; rfl) fun hb hw => ?_
  have S := St.init hi hb
  have hpar := par_eq (.In a0) (ts.drop a)
  simp only [stepP, acc_sees] at hpar
  delta c137 oM oV kI kS kT kF
  simp -dsimp -implicitDefEqProofs only [aw, slots0, V.copy, V.lend, V.cells, V.boxable, rowsOf, plains, V.plain, Nat.reduceLeDiff, eq_self, reduceIte, reduceCtorEq, Nat.reduceBEq, Nat.reduceLT, Nat.reduceEqDiff, Nat.reduceAdd, vex_eq]
  refine c_expect H (m := mark1 123) S ha (fun hs ha1 σ1 S1 hl1 => ?_) (fun hs => ?_)
  case refine_2 =>
    rw [hs, if_neg (by decide)] at hpar
    simp -dsimp -implicitDefEqProofs only [aw, eq_self, reduceIte, reduceCtorEq, Nat.reduceBEq, Nat.reduceLT, Nat.reduceEqDiff]
    exact pq_fail S ha hpar
  rw [hs, if_pos rfl] at hpar
  simp only at hpar
  rw [← hl1]
  simp -dsimp -implicitDefEqProofs only [aw, eq_self, reduceIte, reduceCtorEq, Nat.reduceBEq, Nat.reduceLT, Nat.reduceEqDiff]
  refine awp_forK [0, 4, 5] (R := fun (j : Nat) ρ σ' => ∃ (a1 : Nat) (args : List Ex) (σ2 : List (List V)) (x : List (List V)), ρ = [(0, .ptr i 0), (4, .ptr (σ1.length + 1) 0), (5, .own 24 4 (args.map dex))] ∧ σ' = σ2 ++ x ∧ x = [[.d (dint a0.op), .d (dint a0.num), .d (dstr a0.name), .d (.sl (a0.args.map dex))], [.d (dint 0), .d (dint 0), .d (dstr ⟨#[]⟩), .nil]] ∧ St σ i ts a1 σ2 ∧ σ2.length = σ1.length ∧ a1 ≤ ts.length ∧ a + 1 + j ≤ a1 ∧ args.length ≤ 2 * a1 ∧ par (.In a0) (ts.drop a) = par (.Ip args) (ts.drop a1)) (ts.length - a) ⟨a + 1, [a0], σ1, _, by simp only [List.map_cons, List.map_nil, dex_eq]; rfl, rfl, rfl, S1, rfl, ha1, by omega, by simp only [List.length_cons, List.length_nil]; omega, hpar⟩ ?_ _
  rintro j ρ' σ' hj ⟨a1, args, σ2, x, rfl, rfl, hx, S2, hl2, h1, h2, h3, hp2⟩
  have hp3 := par_eq (.Ip args) (ts.drop a1)
  rw [← hp2] at hp3
  simp only [stepP] at hp3
  subst hx
  rw [← hl2]
  simp -dsimp -implicitDefEqProofs only [aw, V.copy, V.lend, eq_self, reduceIte, reduceCtorEq, Nat.reduceLT, Nat.reduceEqDiff]
  refine c_par H S2 h1 (hW _ (by omega) h1 _ (box_old S2.at_ _)) (fun e1 a2 hx g1 g2 g3 σ3 S3 hl3 => ?_) (fun c r b hx σ3 S3 hl3 => ?_)
  case refine_2 =>
    rw [hx, PR.bind] at hp3
    rw [← hl3]
    simp -dsimp -implicitDefEqProofs only [aw, V.copy, V.lend, eq_self, reduceIte, Nat.reduceBEq]
    exact pq_pan S3 hp3 rfl
  rw [hx, PR.bind, acc_sees] at hp3
  have g3 := g3 rfl
  rw [← hl3]
  simp -dsimp -implicitDefEqProofs only [aw, V.copy, V.lend, V.cells, V.boxable, over, Nat.reduceLeDiff, eq_self, reduceIte, reduceCtorEq, Nat.reduceBEq, Nat.reduceLT, Nat.reduceEqDiff, Nat.reduceAdd, vex_eq]
  refine c_expect H (m := mark2 46 46) S3 g2 (fun hs3 ha4 σ4 S4 hl4 => ?_) (fun hs3 => ?_)
  case refine_2 =>
    rw [hs3, if_neg (by decide)] at hp3
    simp -dsimp -implicitDefEqProofs only [aw, V.copy, V.lend, eq_self, reduceIte, reduceCtorEq, Nat.reduceBEq, Nat.reduceLT, Nat.reduceEqDiff]
    exact pq_fail S3 g2 hp3
  rw [hs3, if_pos rfl] at hp3
  simp only at hp3
  rw [← hl4]
  simp -dsimp -implicitDefEqProofs only [aw, V.copy, V.lend, Nat.reduceLeDiff, eq_self, reduceIte, reduceCtorEq, Nat.reduceBEq, Nat.reduceLT, Nat.reduceEqDiff, Nat.reduceAdd, Nat.reduceSub]
  refine a_par H S4 ha4 (hW _ (by omega) ha4 _ (box_old S4.at_ _)) (fun e2 a3 hx2 k1 k2 k3 σ5 S5 hl5 => ⟨?_, ?_⟩) (fun c r b hx2 σ5 S5 hl5 => ?_) (fun ⟨c, r, hx2⟩ => ?_)
  · rw [← hl5]
    simp -dsimp -implicitDefEqProofs only [aw, V.copy, Nat.reduceLeDiff, eq_self, reduceIte, reduceCtorEq, Nat.reduceLT, Nat.reduceEqDiff, Nat.reduceAdd]
  · rw [← hl5]
    rw [hx2, PR.bind, acc_sees] at hp3
    have k3 := k3 rfl
    have hL := H.len
    simp -dsimp -implicitDefEqProofs only [aw, V.copy, V.cells, rowsOf, plains, V.plain, eq_self, reduceIte, reduceCtorEq, Nat.reduceBEq, Nat.reduceLT, Nat.reduceEqDiff, Nat.reduceAdd, vex_eq]
    refine onT_intro (by omega) ?_
    simp -dsimp -implicitDefEqProofs only [aw, V.copy, V.lend, eq_self, reduceIte, reduceCtorEq, Nat.reduceBEq, Nat.reduceLT, Nat.reduceEqDiff]
    have hrows : args.map dex ++ [[dint e1.op, dint e1.num, dstr e1.name, D.sl (e1.args.map dex)], [dint e2.op, dint e2.num, dstr e2.name, D.sl (e2.args.map dex)]] = (args ++ [e1, e2]).map dex := by rw [List.map_append, List.map_cons, List.map_cons, List.map_nil, dex_eq, dex_eq]
    rw [hrows]
    refine c_accept H (m := mark1 44) S5 k2 (fun h44 ha6 σ6 S6 hl6 => ?_) (fun h44 => ?_)
    · rw [h44, if_pos rfl] at hp3
      simp only at hp3
      rw [← hl6]
      simp -dsimp -implicitDefEqProofs only [aw, V.copy, V.lend, eq_self, reduceIte, reduceCtorEq, Nat.reduceBEq, Nat.reduceLT, Nat.reduceEqDiff]
      refine ⟨by omega, Nxt.to (σ6 ++ [[.d (dint a0.op), .d (dint a0.num), .d (dstr a0.name), .d (.sl (a0.args.map dex))], [.d (dint 0), .d (dint 0), .d (dstr ⟨#[]⟩), .nil]]) [[.d (dint e1.op), .d (dint e1.num), .d (dstr e1.name), .d (.sl (e1.args.map dex))]] (by simp) (by simp) (boxesBelow_app S6.bb rfl) ?_ ⟨a3 + 1, args ++ [e1, e2], σ6, _, ?_, rfl, rfl, S6, ?_, ha6, by omega, ?_, hp3⟩⟩
      · have := S6.lt; simp [slotsBelow, V.under, S6.len]; omega
      · rw [hl6, hl5, hl4, hl3, hl2]
      · omega
      · simp only [List.length_append, List.length_cons, List.length_nil]; omega
    · rw [h44, if_neg (by decide), acc_sees] at hp3
      simp -dsimp -implicitDefEqProofs only [aw, V.copy, V.lend, eq_self, reduceIte, reduceCtorEq, Nat.reduceBEq, Nat.reduceLT, Nat.reduceEqDiff]
      refine c_expect H (m := mark1 125) S5 k2 (fun hs6 ha6 σ6 S6 hl6 => ?_) (fun hs6 => ?_)
      · rw [hs6, if_pos rfl] at hp3
        have hN := node_fun 23 (args ++ [e1, e2])
        rw [← hl6]
        simp -dsimp -implicitDefEqProofs only [aw, V.copy, V.lend, eq_self, reduceIte, reduceCtorEq, Nat.reduceBEq, Nat.reduceLT, Nat.reduceEqDiff]
        refine fun_ret (hN _) ?_
        simp -dsimp -implicitDefEqProofs only [aw, V.copy, V.cells, V.boxable, over, Nat.reduceLeDiff, eq_self, reduceIte, Nat.reduceBEq, Nat.reduceLT, Nat.reduceEqDiff, Nat.reduceAdd, vex_eq, nodeE, mk_op, mk_num, mk_name, mk_args]
        exact pq_ret S6 ha6 hp3 (by rw [vex_eq]; simp [rs137, resV, res1, nodeE, mk_op, mk_num, mk_name, mk_args, dex_eq, aw, V.copy, V.lend, V.lend1, eq_self, reduceIte, Nat.reduceLT, Nat.reduceAdd])
      · rw [hs6, if_neg (by decide)] at hp3
        simp -dsimp -implicitDefEqProofs only [aw, V.copy, V.lend, eq_self, reduceIte, reduceCtorEq, Nat.reduceBEq, Nat.reduceLT, Nat.reduceEqDiff]
        exact pq_fail S5 k2 hp3
  · rw [hx2, PR.bind] at hp3
    intro ρ2
    rw [← hl5]
    simp -dsimp -implicitDefEqProofs only [aw, V.copy, V.lend]
    exact pq_pan S5 hp3 rfl
  · simp -dsimp -implicitDefEqProofs only [aw, V.copy, V.cells, rowsOf, plains, V.plain, Nat.reduceLeDiff, eq_self, reduceIte, reduceCtorEq, Nat.reduceLT, Nat.reduceEqDiff]
end Go.Proofs.YteopfpebdalcoaaGreatDoor
