/-
  GroupsNeeds.
-/
import Derived.Test.YtinenohgemndiaaGx4
set_option linter.unusedVariables false
set_option linter.unusedSimpArgs false
set_option linter.unusedSectionVars false
namespace Go.Proofs.Ytinenohgemndiaa
open Go.RowKit
set_option maxHeartbeats 1000000 in
theorem needs_out (q : Prs) (e k : Int) (n : Int) (l : Rw) (hf : fewB n l = true) (ho : e ≠ 0 ∨ k < 0 ∨ ((q.length : Nat) : Int) ≤ k)
    (ha : ∀ σ, Fun G 21 [.d (dint n), .d (drel l)] σ (RetV (.tup [.d (dprs q), .d (dint e)]) σ)) (σ : List (List V)) :
    Fun G 8 [.d (dint n), .d (drel l), .d (dint k)] σ (RetV (vbool true) σ) := by
  refine fun_code Try.func8 k8 rfl fun hb hw => ?_
  unfold c8
  simp -dsimp -implicitDefEqProofs only [aw, slots0, V.copy, V.lend, V.lend1, V.cells, V.boxable, over, bldV, boundV, rowsOf, plains, V.plain, Nat.reduceLeDiff, cond_true, cond_false, implies_true, eq_self, ne_eq, reduceIte, reduceCtorEq, Nat.reduceBEq, Nat.reduceLT, Nat.reduceEqDiff, Nat.reduceAdd, Nat.reduceSub, Nat.reduceMul]
  refine fun_ret (few_fun n l _) ?_
  rw [hf]
  simp -dsimp -implicitDefEqProofs only [aw, slots0, V.copy, V.lend, V.lend1, V.cells, V.boxable, over, bldV, boundV, rowsOf, plains, V.plain, Nat.reduceLeDiff, cond_true, cond_false, implies_true, eq_self, ne_eq, reduceIte, reduceCtorEq, Nat.reduceBEq, Nat.reduceLT, Nat.reduceEqDiff, Nat.reduceAdd, Nat.reduceSub, Nat.reduceMul]
  refine fun_ret (ha _) ?_
  rw [dprs_eq]
  by_cases he : e = 0
  · by_cases hk : k < 0
    · simp -dsimp -implicitDefEqProofs only [aw, slots0, V.copy, V.lend, V.lend1, V.cells, V.boxable, over, bldV, boundV, rowsOf, plains, V.plain, Nat.reduceLeDiff, cond_true, cond_false, implies_true, eq_self, ne_eq, reduceIte, reduceCtorEq, Nat.reduceBEq, Nat.reduceLT, Nat.reduceEqDiff, Nat.reduceAdd, Nat.reduceSub, Nat.reduceMul, he, hk, decide_true, decide_false, ne_eq, not_true_eq_false]
      refine fun_ret (awake_fun _) ?_
      simp -dsimp -implicitDefEqProofs only [aw, slots0, V.copy, V.lend, V.lend1, V.cells, V.boxable, over, bldV, boundV, rowsOf, plains, V.plain, Nat.reduceLeDiff, cond_true, cond_false, implies_true, eq_self, ne_eq, reduceIte, reduceCtorEq, Nat.reduceBEq, Nat.reduceLT, Nat.reduceEqDiff, Nat.reduceAdd, Nat.reduceSub, Nat.reduceMul]
      first | exact fin_ret hb rfl rfl List.take_length ⟨rfl, rfl⟩ | exact fin_ret hb rfl rfl List.take_left ⟨rfl, rfl⟩ | (trace_state; fail "fin")
    · have hge : k ≥ ((q.length : Nat) : Int) := by rcases ho with h | h | h; exact absurd he h; exact absurd h hk; exact h
      simp -dsimp -implicitDefEqProofs only [aw, slots0, V.copy, V.lend, V.lend1, V.cells, V.boxable, over, bldV, boundV, rowsOf, plains, V.plain, Nat.reduceLeDiff, cond_true, cond_false, implies_true, eq_self, ne_eq, reduceIte, reduceCtorEq, Nat.reduceBEq, Nat.reduceLT, Nat.reduceEqDiff, Nat.reduceAdd, Nat.reduceSub, Nat.reduceMul, he, hk, hge, List.length_map, decide_true, decide_false, ne_eq, not_true_eq_false]
      refine fun_ret (awake_fun _) ?_
      simp -dsimp -implicitDefEqProofs only [aw, slots0, V.copy, V.lend, V.lend1, V.cells, V.boxable, over, bldV, boundV, rowsOf, plains, V.plain, Nat.reduceLeDiff, cond_true, cond_false, implies_true, eq_self, ne_eq, reduceIte, reduceCtorEq, Nat.reduceBEq, Nat.reduceLT, Nat.reduceEqDiff, Nat.reduceAdd, Nat.reduceSub, Nat.reduceMul]
      first | exact fin_ret hb rfl rfl List.take_length ⟨rfl, rfl⟩ | exact fin_ret hb rfl rfl List.take_left ⟨rfl, rfl⟩ | (trace_state; fail "fin")
  · simp -dsimp -implicitDefEqProofs only [aw, slots0, V.copy, V.lend, V.lend1, V.cells, V.boxable, over, bldV, boundV, rowsOf, plains, V.plain, Nat.reduceLeDiff, cond_true, cond_false, implies_true, eq_self, ne_eq, reduceIte, reduceCtorEq, Nat.reduceBEq, Nat.reduceLT, Nat.reduceEqDiff, Nat.reduceAdd, Nat.reduceSub, Nat.reduceMul, he, decide_true, decide_false, Bool.not_false, ne_eq, not_false_eq_true]
    refine fun_ret (awake_fun _) ?_
    simp -dsimp -implicitDefEqProofs only [aw, slots0, V.copy, V.lend, V.lend1, V.cells, V.boxable, over, bldV, boundV, rowsOf, plains, V.plain, Nat.reduceLeDiff, cond_true, cond_false, implies_true, eq_self, ne_eq, reduceIte, reduceCtorEq, Nat.reduceBEq, Nat.reduceLT, Nat.reduceEqDiff, Nat.reduceAdd, Nat.reduceSub, Nat.reduceMul]
    first | exact fin_ret hb rfl rfl List.take_length ⟨rfl, rfl⟩ | exact fin_ret hb rfl rfl List.take_left ⟨rfl, rfl⟩ | (trace_state; fail "fin")
set_option maxHeartbeats 1000000 in
theorem needs_in (q : Prs) (k : Nat) (n : Int) (l : Rw) (hl : l.length ≤ 60) (hq : q.length ≤ 4096) (hk : k < q.length) (T S : List (List Bool)) (h1 : T.length ≤ 1000000) (h2 : ∀ r ∈ T, r.length ≤ 1000000) (hTS : T ≠ S) (hf : fewB n l = true)
    (ha : ∀ σ, Fun G 21 [.d (dint n), .d (drel l)] σ (RetV (.tup [.d (dprs q), .d (dint 0)]) σ))
    (hr1 : ∀ σ, Fun G 19 [.d (dint n), .d (dprs (q.eraseIdx k))] σ (RetV (.d (dtab T)) σ)) (hr2 : ∀ σ, Fun G 19 [.d (dint n), .d (drel l)] σ (RetV (.d (dtab S)) σ)) (σ : List (List V)) :
    Fun G 8 [.d (dint n), .d (drel l), .d (dint (k : Nat))] σ (RetV (vbool true) σ) := by
  refine fun_code Try.func8 k8 rfl fun hb hw => ?_
  unfold c8
  simp -dsimp -implicitDefEqProofs only [aw, slots0, V.copy, V.lend, V.lend1, V.cells, V.boxable, over, bldV, boundV, rowsOf, plains, V.plain, Nat.reduceLeDiff, cond_true, cond_false, implies_true, eq_self, ne_eq, reduceIte, reduceCtorEq, Nat.reduceBEq, Nat.reduceLT, Nat.reduceEqDiff, Nat.reduceAdd, Nat.reduceSub, Nat.reduceMul]
  refine fun_ret (few_fun n l _) ?_
  rw [hf]
  simp -dsimp -implicitDefEqProofs only [aw, slots0, V.copy, V.lend, V.lend1, V.cells, V.boxable, over, bldV, boundV, rowsOf, plains, V.plain, Nat.reduceLeDiff, cond_true, cond_false, implies_true, eq_self, ne_eq, reduceIte, reduceCtorEq, Nat.reduceBEq, Nat.reduceLT, Nat.reduceEqDiff, Nat.reduceAdd, Nat.reduceSub, Nat.reduceMul]
  refine fun_ret (ha _) ?_
  have hng : ¬ ((k : Nat) : Int) < 0 := by omega
  have hng2 : ¬ ((k : Nat) : Int) ≥ ((q.length : Nat) : Int) := by omega
  have hqe : prow (q.eraseIdx k) = (prow q).take k ++ (prow q).drop (k + 1) := by
    unfold prow
    rw [List.eraseIdx_eq_take_drop_succ, List.map_append, List.map_take, List.map_drop]
  rw [dprs_eq]
  rw [dprs_eq] at hr1
  rw [show ((q.eraseIdx k).map fun p => [dint p.1, dint p.2]) = prow (q.eraseIdx k) from rfl, hqe] at hr1
  have hs1 : subV false 2 (V.d (.sl (prow q))) none (some (vint IntKind.i64 (k : Nat))) = some (.d (.sl ((prow q).take k))) := by
    simp only [subV, boundV, rowsV]
    simp
    omega
  have hs2 : subV false 2 (V.d (.sl (prow q))) (some (vint IntKind.i64 (k + 1 : Nat))) none = some (.d (.sl ((prow q).drop (k + 1)))) := by
    have h0 : (0 : Int) ≤ (k : Int) + 1 := by omega
    have h1 : k + 1 ≤ q.length := hk
    simp only [subV, boundV, rowsV]
    simp [h0, h1]
    rw [List.take_of_length_le (by simp)]
  have hwk : IntKind.i64.wrap ((k : Int) + 1) = ((k + 1 : Nat) : Int) := by rw [wrap_i64 (by omega) (by omega)]; omega
  have hall1 : ((prow q).take k).all (fun r => r.length == 2) = true := List.all_eq_true.2 fun r hr => by obtain ⟨_, -, rfl⟩ := List.mem_map.1 (List.mem_of_mem_take hr); rfl
  have hall2 : ((prow q).drop (k + 1)).all (fun r => r.length == 2) = true := List.all_eq_true.2 fun r hr => by obtain ⟨_, -, rfl⟩ := List.mem_map.1 (List.mem_of_mem_drop hr); rfl
  have hl1 : ((prow q).take k).length ≤ 4096 := by simp; omega
  have hl2 : ((prow q).drop (k + 1)).length ≤ 4096 := by simp; omega
  simp -dsimp -implicitDefEqProofs only [aw, slots0, V.copy, V.lend, V.lend1, V.cells, V.boxable, over, bldV, boundV, rowsOf, plains, V.plain, Nat.reduceLeDiff, cond_true, cond_false, implies_true, eq_self, ne_eq, reduceIte, reduceCtorEq, Nat.reduceBEq, Nat.reduceLT, Nat.reduceEqDiff, Nat.reduceAdd, Nat.reduceSub, Nat.reduceMul, hng, hng2, List.length_map, decide_true, decide_false, ne_eq, not_true_eq_false, hs1, hall1]
  refine onT_intro (by omega) ?_
  simp -dsimp -implicitDefEqProofs only [aw, slots0, V.copy, V.lend, V.lend1, V.cells, V.boxable, over, bldV, boundV, rowsOf, plains, V.plain, Nat.reduceLeDiff, cond_true, cond_false, implies_true, eq_self, ne_eq, reduceIte, reduceCtorEq, Nat.reduceBEq, Nat.reduceLT, Nat.reduceEqDiff, Nat.reduceAdd, Nat.reduceSub, Nat.reduceMul, hwk, hs2, hall2]
  refine onT_intro (by omega) ?_
  simp -dsimp -implicitDefEqProofs only [aw, slots0, V.copy, V.lend, V.lend1, V.cells, V.boxable, over, bldV, boundV, rowsOf, plains, V.plain, Nat.reduceLeDiff, cond_true, cond_false, implies_true, eq_self, ne_eq, reduceIte, reduceCtorEq, Nat.reduceBEq, Nat.reduceLT, Nat.reduceEqDiff, Nat.reduceAdd, Nat.reduceSub, Nat.reduceMul]
  refine fun_ret (hr1 _) ?_
  simp -dsimp -implicitDefEqProofs only [aw, slots0, V.copy, V.lend, V.lend1, V.cells, V.boxable, over, bldV, boundV, rowsOf, plains, V.plain, Nat.reduceLeDiff, cond_true, cond_false, implies_true, eq_self, ne_eq, reduceIte, reduceCtorEq, Nat.reduceBEq, Nat.reduceLT, Nat.reduceEqDiff, Nat.reduceAdd, Nat.reduceSub, Nat.reduceMul]
  refine fun_ret (hr2 _) ?_
  simp -dsimp -implicitDefEqProofs only [aw, slots0, V.copy, V.lend, V.lend1, V.cells, V.boxable, over, bldV, boundV, rowsOf, plains, V.plain, Nat.reduceLeDiff, cond_true, cond_false, implies_true, eq_self, ne_eq, reduceIte, reduceCtorEq, Nat.reduceBEq, Nat.reduceLT, Nat.reduceEqDiff, Nat.reduceAdd, Nat.reduceSub, Nat.reduceMul]
  refine fun_ret (tables_fun _ _ h1 h2 _) ?_
  simp -dsimp -implicitDefEqProofs only [aw, slots0, V.copy, V.lend, V.lend1, V.cells, V.boxable, over, bldV, boundV, rowsOf, plains, V.plain, Nat.reduceLeDiff, cond_true, cond_false, implies_true, eq_self, ne_eq, reduceIte, reduceCtorEq, Nat.reduceBEq, Nat.reduceLT, Nat.reduceEqDiff, Nat.reduceAdd, Nat.reduceSub, Nat.reduceMul, hTS, decide_false]
  refine fun_ret (awake_fun _) ?_
  simp -dsimp -implicitDefEqProofs only [aw, slots0, V.copy, V.lend, V.lend1, V.cells, V.boxable, over, bldV, boundV, rowsOf, plains, V.plain, Nat.reduceLeDiff, cond_true, cond_false, implies_true, eq_self, ne_eq, reduceIte, reduceCtorEq, Nat.reduceBEq, Nat.reduceLT, Nat.reduceEqDiff, Nat.reduceAdd, Nat.reduceSub, Nat.reduceMul]
  first | exact fin_ret hb rfl rfl List.take_length ⟨rfl, rfl⟩ | exact fin_ret hb rfl rfl List.take_left ⟨rfl, rfl⟩ | (trace_state; fail "fin")
theorem needs_law (n : Int) (l : Rw) (k : Int) (σ : List (List V)) : Fun G 8 [.d (dint n), .d (drel l), .d (dint k)] σ (RetV (vbool true) σ) := by
  cases hf : fewB n l
  · refine fun_code Try.func8 k8 rfl fun hb hw => ?_
    unfold c8
    simp -dsimp -implicitDefEqProofs only [aw, slots0, V.copy, V.lend, V.lend1, V.cells, V.boxable, over, bldV, boundV, rowsOf, plains, V.plain, Nat.reduceLeDiff, cond_true, cond_false, implies_true, eq_self, ne_eq, reduceIte, reduceCtorEq, Nat.reduceBEq, Nat.reduceLT, Nat.reduceEqDiff, Nat.reduceAdd, Nat.reduceSub, Nat.reduceMul]
    refine fun_ret (few_fun n l _) ?_
    rw [hf]
    simp -dsimp -implicitDefEqProofs only [aw, slots0, V.copy, V.lend, V.lend1, V.cells, V.boxable, over, bldV, boundV, rowsOf, plains, V.plain, Nat.reduceLeDiff, cond_true, cond_false, implies_true, eq_self, ne_eq, reduceIte, reduceCtorEq, Nat.reduceBEq, Nat.reduceLT, Nat.reduceEqDiff, Nat.reduceAdd, Nat.reduceSub, Nat.reduceMul]
    refine fun_ret (awake_fun _) ?_
    simp -dsimp -implicitDefEqProofs only [aw, slots0, V.copy, V.lend, V.lend1, V.cells, V.boxable, over, bldV, boundV, rowsOf, plains, V.plain, Nat.reduceLeDiff, cond_true, cond_false, implies_true, eq_self, ne_eq, reduceIte, reduceCtorEq, Nat.reduceBEq, Nat.reduceLT, Nat.reduceEqDiff, Nat.reduceAdd, Nat.reduceSub, Nat.reduceMul]
    first | exact fin_ret hb rfl rfl List.take_length ⟨rfl, rfl⟩ | exact fin_ret hb rfl rfl List.take_left ⟨rfl, rfl⟩ | (trace_state; fail "fin")
  have hlen := few_len hf
  cases hv : validR n l
  · exact needs_out [] 1 k n l hf (.inl (by decide)) (fun σ => redu_no n l (by omega) hv σ) σ
  obtain ⟨m, p, rfl, hm, hdr, hpl, rfl, hp⟩ := valid_prs hv
  have ha := fun σ => redu_fun m p hm hp (by omega) hv σ
  have hr2 := fun σ => grreach_fun (m : Int) (p.map fun q => ((q.1 : Int), (q.2 : Int))) (by omega) σ
  rw [reach_yes hv] at hr2
  rw [← hdr] at ha
  unfold redE at ha
  cases hro : roundB m (clo m p)
  case true =>
    rw [hro, if_pos rfl] at ha
    exact needs_out [] 10 k _ _ hf (.inl (by decide)) ha σ
  rw [hro, if_neg (by simp)] at ha
  by_cases h1 : k < 0
  · exact needs_out _ 0 k _ _ hf (.inr (.inl h1)) ha σ
  by_cases h2 : (((redp m (clo m p)).length : Nat) : Int) ≤ k
  · exact needs_out _ 0 k _ _ hf (.inr (.inr h2)) ha σ
  obtain ⟨i, rfl⟩ : ∃ i : Nat, k = i := ⟨k.toNat, by omega⟩
  have hi : i < (redp m (clo m p)).length := by omega
  have hql := redp_len m (clo m p) hm
  obtain ⟨c1, c2⟩ := clo_get hp
  have hsub : ∀ a b, RL ((redp m (clo m p)).eraseIdx i) a b → a < m ∧ b < m := fun a b h => red_lt a b (List.mem_of_mem_eraseIdx h)
  have hvr := prs_valid hm hsub
  have hr1 := fun σ => grreach_fun (m : Int) (((redp m (clo m p)).eraseIdx i).map fun q => ((q.1 : Int), (q.2 : Int))) (by rw [List.length_map]; have := List.length_eraseIdx_le (redp m (clo m p)) i; omega) σ
  rw [reach_yes hvr] at hr1
  obtain ⟨k1, k2⟩ := clo_le hm hsub
  refine needs_in _ i _ _ hlen hql hi _ (clo m p) k1 k2 (fun hTS => ?_) hf ha hr1 hr2 σ
  have hat : (redp m (clo m p))[i]? = some ((redp m (clo m p))[i].1, (redp m (clo m p))[i].2) := List.getElem?_eq_getElem hi
  have hmem := red_lt (n := m) (t := clo m p) _ _ (List.getElem_mem hi)
  have hm3 := redp_mem.1 (show ((redp m (clo m p))[i].1, (redp m (clo m p))[i].2) ∈ redp m (clo m p) from List.getElem_mem hi)
  have hnb := red_needs hp c2 hat
  obtain ⟨d1, d2⟩ := clo_get hsub
  exact hnb ((d2 _ _ hm3.1 hm3.2.1).1 (by rw [hTS]; exact hm3.2.2.1))
end Go.Proofs.Ytinenohgemndiaa
