/-
  GroupsLayers.
-/
import Derived.Test.YtinenohgemndiaaGx1
set_option linter.unusedVariables false
set_option linter.unusedSimpArgs false
set_option linter.unusedSectionVars false
namespace Go.Proofs.Ytinenohgemndiaa
open Go.RowKit
theorem round_acyc {l : Prs} {n : Nat} (hl : ∀ a b, RL l a b → a < n ∧ b < n) : roundB n (clo n l) = true ↔ ¬ Acyc (RL l) := by
  rw [← diag_iff hl]
  unfold roundB
  rw [List.any_eq_true]
  constructor
  · rintro ⟨i, hi, h⟩; exact ⟨i, List.mem_range.1 hi, h⟩
  · rintro ⟨i, hi, h⟩; exact ⟨i, List.mem_range.2 hi, h⟩
theorem lvls_row {l : Prs} {n : Nat} (hl : ∀ a b, RL l a b → a < n ∧ b < n) (hac : Acyc (RL l)) {ls : List (List Nat)} (h : lvls l n (List.range n) = some ls) : ls.length ≤ n ∧ ∀ r ∈ ls, r.length ≤ n := by
  refine ⟨lvls_len n _ ls h, fun r hr => ?_⟩
  rw [rlevels_eq hl hac] at h
  rw [← Option.some.inj h] at hr
  unfold rlevels at hr
  have hr2 := (List.mem_filter.1 hr).1
  obtain ⟨k, -, rfl⟩ := List.mem_map.1 hr2
  exact Nat.le_trans (List.length_filter_le _ _) (by simp)
theorem lev_both {l : Prs} {n : Nat} (hl : ∀ a b, RL l a b → a < n ∧ b < n) : (lvls l n (List.range n) = none ∧ ¬ Acyc (RL l) ∧ levP n l = .tup [.d (dlls []), .d (dint 10)] ∧ levE n l = .tup [.d (dlls []), .d (dint 10)]) ∨
    ∃ ls, lvls l n (List.range n) = some ls ∧ Acyc (RL l) ∧ levP n l = .tup [.d (dlls ls), .d (dint 0)] ∧ levE n l = .tup [.d (dlls ls), .d (dint 0)] ∧ ls.length ≤ n ∧ ∀ r ∈ ls, r.length ≤ n := by
  by_cases hac : Acyc (RL l)
  · have h1 := rlevels_eq hl hac
    have hr : roundB n (clo n l) = false := by
      rw [Bool.eq_false_iff]; intro h; exact (round_acyc hl).1 h hac
    obtain ⟨g1, g2⟩ := lvls_row hl hac h1
    exact .inr ⟨_, h1, hac, by unfold levP; rw [h1], by unfold levE; rw [hr]; rfl, g1, g2⟩
  · have h1 := (lvls_none hl).2 hac
    have hr : roundB n (clo n l) = true := (round_acyc hl).2 hac
    exact .inl ⟨h1, hac, by unfold levP; rw [h1]; rfl, by unfold levE; rw [hr]; rfl⟩
theorem lls_at {ls : List (List Nat)} {j : Nat} {r : List Nat} (h : ls[j]? = some r) : (ls.map fun l => [dints (cst l)])[j]? = some [dints (cst r)] := by simp [h]
theorem layers_end (ls : List (List Nat)) (e : Int) (n : Int) (l : Rw) (h1 : ls.length ≤ 1000000) (h2 : ∀ r ∈ ls, r.length ≤ 1000000) (hf : fewB n l = true)
    (ha : ∀ σ, Fun G 11 [.d (dint n), .d (drel l)] σ (RetV (.tup [.d (dlls ls), .d (dint e)]) σ)) (hb' : ∀ σ, Fun G 12 [.d (dint n), .d (drel l)] σ (RetV (.tup [.d (dlls ls), .d (dint e)]) σ)) (σ : List (List V)) : Fun G 3 [.d (dint n), .d (drel l)] σ (RetV (vbool true) σ) := by
  refine fun_code Try.func3 k3 rfl fun hb hw => ?_
  unfold c3
  simp -dsimp -implicitDefEqProofs only [aw, slots0, V.copy, V.lend, V.lend1, V.cells, V.boxable, over, bldV, boundV, rowsOf, plains, V.plain, Nat.reduceLeDiff, cond_true, cond_false, implies_true, eq_self, ne_eq, reduceIte, reduceCtorEq, Nat.reduceBEq, Nat.reduceLT, Nat.reduceEqDiff, Nat.reduceAdd, Nat.reduceSub, Nat.reduceMul]
  refine fun_ret (few_fun n l _) ?_
  rw [hf]
  simp -dsimp -implicitDefEqProofs only [aw, slots0, V.copy, V.lend, V.lend1, V.cells, V.boxable, over, bldV, boundV, rowsOf, plains, V.plain, Nat.reduceLeDiff, cond_true, cond_false, implies_true, eq_self, ne_eq, reduceIte, reduceCtorEq, Nat.reduceBEq, Nat.reduceLT, Nat.reduceEqDiff, Nat.reduceAdd, Nat.reduceSub, Nat.reduceMul]
  refine fun_ret (ha _) ?_
  simp -dsimp -implicitDefEqProofs only [aw, slots0, V.copy, V.lend, V.lend1, V.cells, V.boxable, over, bldV, boundV, rowsOf, plains, V.plain, Nat.reduceLeDiff, cond_true, cond_false, implies_true, eq_self, ne_eq, reduceIte, reduceCtorEq, Nat.reduceBEq, Nat.reduceLT, Nat.reduceEqDiff, Nat.reduceAdd, Nat.reduceSub, Nat.reduceMul]
  refine fun_ret (hb' _) ?_
  unfold dlls
  simp -dsimp -implicitDefEqProofs only [aw, slots0, V.copy, V.lend, V.lend1, V.cells, V.boxable, over, bldV, boundV, rowsOf, plains, V.plain, Nat.reduceLeDiff, cond_true, cond_false, implies_true, eq_self, ne_eq, reduceIte, reduceCtorEq, Nat.reduceBEq, Nat.reduceLT, Nat.reduceEqDiff, Nat.reduceAdd, Nat.reduceSub, Nat.reduceMul, decide_true, decide_false, ne_eq, not_true_eq_false]
  refine awp_forK [5, 7, 9] (fun (j : Nat) ρ τ => ρ = [(5, .d (.sl (ls.map fun l => [dints (cst l)]))), (7, .d (.sl (ls.map fun l => [dints (cst l)]))), (9, vint .i64 j)] ∧ τ = σ) ls.length ⟨rfl, rfl⟩ ?_ _
  rintro j ρ' τ hj ⟨rfl, rfl⟩
  by_cases hlt : j < ls.length
  · have hat := lls_at (List.getElem?_eq_getElem hlt)
    have hr := h2 _ (List.getElem_mem hlt)
    generalize ls[j] = r at hat hr
    simp -dsimp -implicitDefEqProofs only [aw, slots0, V.copy, V.lend, V.lend1, V.cells, V.boxable, over, bldV, boundV, rowsOf, plains, V.plain, Nat.reduceLeDiff, cond_true, cond_false, implies_true, eq_self, ne_eq, reduceIte, reduceCtorEq, Nat.reduceBEq, Nat.reduceLT, Nat.reduceEqDiff, Nat.reduceAdd, Nat.reduceSub, Nat.reduceMul, Int.ofNat_lt, List.length_map, hlt, decide_true, hat, iaK_some]
    refine calm_ret (ints_fun _ _ (by simpa using hr) (by simpa using hr) _) ?_
    simp -dsimp -implicitDefEqProofs only [aw, slots0, V.copy, V.lend, V.lend1, V.cells, V.boxable, over, bldV, boundV, rowsOf, plains, V.plain, Nat.reduceLeDiff, cond_true, cond_false, implies_true, eq_self, ne_eq, reduceIte, reduceCtorEq, Nat.reduceBEq, Nat.reduceLT, Nat.reduceEqDiff, Nat.reduceAdd, Nat.reduceSub, Nat.reduceMul, decide_true, wrap_nat hlt (show ls.length ≤ 9223372036854775807 by omega)]
    exact ⟨hlt, Nxt.same (Nat.le_refl _) hb rfl ⟨rfl, rfl⟩⟩
  · simp -dsimp -implicitDefEqProofs only [aw, slots0, V.copy, V.lend, V.lend1, V.cells, V.boxable, over, bldV, boundV, rowsOf, plains, V.plain, Nat.reduceLeDiff, cond_true, cond_false, implies_true, eq_self, ne_eq, reduceIte, reduceCtorEq, Nat.reduceBEq, Nat.reduceLT, Nat.reduceEqDiff, Nat.reduceAdd, Nat.reduceSub, Nat.reduceMul, Int.ofNat_lt, List.length_map, hlt, decide_false]
    refine fun_ret (awake_fun _) ?_
    simp -dsimp -implicitDefEqProofs only [aw, slots0, V.copy, V.lend, V.lend1, V.cells, V.boxable, over, bldV, boundV, rowsOf, plains, V.plain, Nat.reduceLeDiff, cond_true, cond_false, implies_true, eq_self, ne_eq, reduceIte, reduceCtorEq, Nat.reduceBEq, Nat.reduceLT, Nat.reduceEqDiff, Nat.reduceAdd, Nat.reduceSub, Nat.reduceMul]
    first | exact fin_ret hb rfl rfl List.take_length ⟨rfl, rfl⟩ | exact fin_ret hb rfl rfl List.take_left ⟨rfl, rfl⟩ | (trace_state; fail "fin")
theorem layers_law (n : Int) (l : Rw) (σ : List (List V)) : Fun G 3 [.d (dint n), .d (drel l)] σ (RetV (vbool true) σ) := by
  cases hf : fewB n l
  · refine fun_code Try.func3 k3 rfl fun hb hw => ?_
    unfold c3
    simp -dsimp -implicitDefEqProofs only [aw, slots0, V.copy, V.lend, V.lend1, V.cells, V.boxable, over, bldV, boundV, rowsOf, plains, V.plain, Nat.reduceLeDiff, cond_true, cond_false, implies_true, eq_self, ne_eq, reduceIte, reduceCtorEq, Nat.reduceBEq, Nat.reduceLT, Nat.reduceEqDiff, Nat.reduceAdd, Nat.reduceSub, Nat.reduceMul]
    refine fun_ret (few_fun n l _) ?_
    rw [hf]
    simp -dsimp -implicitDefEqProofs only [aw, slots0, V.copy, V.lend, V.lend1, V.cells, V.boxable, over, bldV, boundV, rowsOf, plains, V.plain, Nat.reduceLeDiff, cond_true, cond_false, implies_true, eq_self, ne_eq, reduceIte, reduceCtorEq, Nat.reduceBEq, Nat.reduceLT, Nat.reduceEqDiff, Nat.reduceAdd, Nat.reduceSub, Nat.reduceMul]
    refine fun_ret (awake_fun _) ?_
    simp -dsimp -implicitDefEqProofs only [aw, slots0, V.copy, V.lend, V.lend1, V.cells, V.boxable, over, bldV, boundV, rowsOf, plains, V.plain, Nat.reduceLeDiff, cond_true, cond_false, implies_true, eq_self, ne_eq, reduceIte, reduceCtorEq, Nat.reduceBEq, Nat.reduceLT, Nat.reduceEqDiff, Nat.reduceAdd, Nat.reduceSub, Nat.reduceMul]
    first | exact fin_ret hb rfl rfl List.take_length ⟨rfl, rfl⟩ | exact fin_ret hb rfl rfl List.take_left ⟨rfl, rfl⟩ | (trace_state; fail "fin")
  have hlen := few_len hf
  cases hv : validR n l
  · exact layers_end [] 1 n l (by simp) (fun r hr => by cases hr) hf (fun σ => lev_no n l (by omega) hv σ) (fun σ => reflev_no n l (by omega) hv σ) σ
  obtain ⟨m, p, rfl, hm, hdr, hpl, rfl, hp⟩ := valid_prs hv
  have ha := fun σ => lev_fun m p hm hp (by omega) hv σ
  have hb' := fun σ => reflev_fun m p hm hp (by omega) hv σ
  rw [← hdr] at ha hb'
  rcases lev_both hp with ⟨-, -, e1, e2⟩ | ⟨ls, -, -, e1, e2, g1, g2⟩
  · rw [e1] at ha; rw [e2] at hb'
    exact layers_end [] 10 _ _ (by simp) (fun r hr => by cases hr) hf ha hb' σ
  · rw [e1] at ha; rw [e2] at hb'
    exact layers_end ls 0 _ _ (by omega) (fun r hr => by have := g2 r hr; omega) hf ha hb' σ
end Go.Proofs.Ytinenohgemndiaa
