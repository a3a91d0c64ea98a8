/-
  GroupsReduces, GroupsNeeds.
-/
import Derived.Test.YtinenohgemndiaaGx3
set_option linter.unusedVariables false
set_option linter.unusedSimpArgs false
set_option linter.unusedSectionVars false
namespace Go.Proofs.Ytinenohgemndiaa
open Go.RowKit
theorem prow_at {q : Prs} {j : Nat} {a b : Nat} (h : q[j]? = some (a, b)) : (prow q)[j]? = some [dint a, dint b] := by simp [h]
theorem prs_valid {n : Nat} {q : Prs} (hn : n ≤ 64) (h : ∀ a b, RL q a b → a < n ∧ b < n) : validR n (q.map fun p => ((p.1 : Int), (p.2 : Int))) = true := by
  unfold validR
  rw [decide_eq_true (by omega), decide_eq_true (by omega)]
  simp only [Bool.true_and, List.all_eq_true, List.mem_map]
  rintro x ⟨⟨a, b⟩, hm, rfl⟩
  obtain ⟨h1, h2⟩ := h a b hm
  unfold okP
  simp only
  rw [decide_eq_true (by omega), decide_eq_true (by omega), decide_eq_true (by omega), decide_eq_true (by omega)]; rfl
theorem redp_len (n : Nat) (t : List (List Bool)) (hn : n ≤ 64) : (redp n t).length ≤ 4096 := by
  rw [redp_eq]
  have H : ∀ k, ((List.range k).flatMap fun a => redr n t a (List.range n)).length ≤ k * 64 := by
    intro k
    induction k with
    | zero => simp
    | succ k ih =>
      have h1 := redr_len n t k n
      rw [List.range_succ, List.flatMap_append, List.length_append, Nat.add_mul]
      simp only [List.flatMap_cons, List.flatMap_nil, List.append_nil]
      omega
  have := H n
  omega
theorem reduces_end (q : Prs) (e : Int) (n : Int) (l : Rw) (hl : l.length ≤ 60) (hq : q.length ≤ 4096) (ls : List (List Nat)) (T : List (List Bool)) (h1 : ls.length ≤ 1000000) (h2 : ∀ r ∈ ls, r.length ≤ 1000000) (h3 : T.length ≤ 1000000) (h4 : ∀ r ∈ T, r.length ≤ 1000000) (hf : fewB n l = true)
    (ha : ∀ σ, Fun G 21 [.d (dint n), .d (drel l)] σ (RetV (.tup [.d (dprs q), .d (dint e)]) σ)) (hb' : ∀ σ, Fun G 22 [.d (dint n), .d (drel l)] σ (RetV (.tup [.d (dprs q), .d (dint e)]) σ))
    (hc : e = 0 → ∀ σ, Fun G 11 [.d (dint n), .d (drel l)] σ (RetV (.tup [.d (dlls ls), .d (dint 0)]) σ)) (hd : e = 0 → ∀ σ, Fun G 11 [.d (dint n), .d (dprs q)] σ (RetV (.tup [.d (dlls ls), .d (dint 0)]) σ))
    (hr1 : e = 0 → ∀ σ, Fun G 19 [.d (dint n), .d (dprs q)] σ (RetV (.d (dtab T)) σ)) (hr2 : e = 0 → ∀ σ, Fun G 19 [.d (dint n), .d (drel l)] σ (RetV (.d (dtab T)) σ)) (σ : List (List V)) :
    Fun G 7 [.d (dint n), .d (drel l)] σ (RetV (vbool true) σ) := by
  refine fun_code Try.func7 k7 rfl fun hb hw => ?_
  unfold c7
  simp -dsimp -implicitDefEqProofs only [aw, slots0, V.copy, V.lend, V.lend1, V.cells, V.boxable, over, bldV, boundV, rowsOf, plains, V.plain, Nat.reduceLeDiff, cond_true, cond_false, implies_true, eq_self, ne_eq, reduceIte, reduceCtorEq, Nat.reduceBEq, Nat.reduceLT, Nat.reduceEqDiff, Nat.reduceAdd, Nat.reduceSub, Nat.reduceMul]
  refine fun_ret (few_fun n l _) ?_
  rw [hf]
  simp -dsimp -implicitDefEqProofs only [aw, slots0, V.copy, V.lend, V.lend1, V.cells, V.boxable, over, bldV, boundV, rowsOf, plains, V.plain, Nat.reduceLeDiff, cond_true, cond_false, implies_true, eq_self, ne_eq, reduceIte, reduceCtorEq, Nat.reduceBEq, Nat.reduceLT, Nat.reduceEqDiff, Nat.reduceAdd, Nat.reduceSub, Nat.reduceMul]
  refine fun_ret (ha _) ?_
  simp -dsimp -implicitDefEqProofs only [aw, slots0, V.copy, V.lend, V.lend1, V.cells, V.boxable, over, bldV, boundV, rowsOf, plains, V.plain, Nat.reduceLeDiff, cond_true, cond_false, implies_true, eq_self, ne_eq, reduceIte, reduceCtorEq, Nat.reduceBEq, Nat.reduceLT, Nat.reduceEqDiff, Nat.reduceAdd, Nat.reduceSub, Nat.reduceMul]
  refine fun_ret (hb' _) ?_
  rw [dprs_eq] at hd hr1 ⊢
  simp -dsimp -implicitDefEqProofs only [aw, slots0, V.copy, V.lend, V.lend1, V.cells, V.boxable, over, bldV, boundV, rowsOf, plains, V.plain, Nat.reduceLeDiff, cond_true, cond_false, implies_true, eq_self, ne_eq, reduceIte, reduceCtorEq, Nat.reduceBEq, Nat.reduceLT, Nat.reduceEqDiff, Nat.reduceAdd, Nat.reduceSub, Nat.reduceMul, decide_true, decide_false, ne_eq, not_true_eq_false]
  refine awp_forK [0, 1, 5, 6, 7, 9] (fun (j : Nat) ρ τ => ρ = [(0, .d (dint n)), (1, .d (drel l)), (5, .d (.sl (prow q))), (6, .d (dint e)), (7, .d (.sl (prow q))), (9, vint .i64 j)] ∧ τ = σ) q.length ⟨rfl, rfl⟩ ?_ _
  rintro j ρ' τ hj ⟨rfl, rfl⟩
  by_cases hlt : j < q.length
  · have hat := prow_at (a := q[j].1) (b := q[j].2) (List.getElem?_eq_getElem hlt)
    generalize q[j] = p at hat
    obtain ⟨a, b⟩ := p
    simp -dsimp -implicitDefEqProofs only [aw, slots0, V.copy, V.lend, V.lend1, V.cells, V.boxable, over, bldV, boundV, rowsOf, plains, V.plain, Nat.reduceLeDiff, cond_true, cond_false, implies_true, eq_self, ne_eq, reduceIte, reduceCtorEq, Nat.reduceBEq, Nat.reduceLT, Nat.reduceEqDiff, Nat.reduceAdd, Nat.reduceSub, Nat.reduceMul, Int.ofNat_lt, List.length_map, hlt, decide_true, hat, iaK_some, eqs_pair, eql_pair, Bool.and_self, cond_true, Bool.not_true, wrap_nat hlt (show q.length ≤ 9223372036854775807 by omega)]
    exact Nxt.same (Nat.le_refl _) hb rfl ⟨rfl, rfl⟩
  by_cases he : e = 0
  · subst he
    have hc := hc rfl
    have hd := hd rfl
    have hr1 := hr1 rfl
    have hr2 := hr2 rfl
    simp -dsimp -implicitDefEqProofs only [aw, slots0, V.copy, V.lend, V.lend1, V.cells, V.boxable, over, bldV, boundV, rowsOf, plains, V.plain, Nat.reduceLeDiff, cond_true, cond_false, implies_true, eq_self, ne_eq, reduceIte, reduceCtorEq, Nat.reduceBEq, Nat.reduceLT, Nat.reduceEqDiff, Nat.reduceAdd, Nat.reduceSub, Nat.reduceMul, Int.ofNat_lt, List.length_map, hlt, decide_false, decide_true, ne_eq, not_true_eq_false]
    refine fun_ret (hc _) ?_
    simp -dsimp -implicitDefEqProofs only [aw, slots0, V.copy, V.lend, V.lend1, V.cells, V.boxable, over, bldV, boundV, rowsOf, plains, V.plain, Nat.reduceLeDiff, cond_true, cond_false, implies_true, eq_self, ne_eq, reduceIte, reduceCtorEq, Nat.reduceBEq, Nat.reduceLT, Nat.reduceEqDiff, Nat.reduceAdd, Nat.reduceSub, Nat.reduceMul]
    refine fun_ret (hd _) ?_
    unfold dlls
    simp -dsimp -implicitDefEqProofs only [aw, slots0, V.copy, V.lend, V.lend1, V.cells, V.boxable, over, bldV, boundV, rowsOf, plains, V.plain, Nat.reduceLeDiff, cond_true, cond_false, implies_true, eq_self, ne_eq, reduceIte, reduceCtorEq, Nat.reduceBEq, Nat.reduceLT, Nat.reduceEqDiff, Nat.reduceAdd, Nat.reduceSub, Nat.reduceMul, decide_true, decide_false, ne_eq, not_true_eq_false]
    refine awp_forK [0, 1, 5, 10, 12, 14] (fun (i : Nat) ρ υ => ρ = [(0, .d (dint n)), (1, .d (drel l)), (5, .d (.sl (prow q))), (10, .d (.sl (ls.map fun l => [dints (cst l)]))), (12, .d (.sl (ls.map fun l => [dints (cst l)]))), (14, vint .i64 i)] ∧ υ = τ) ls.length ⟨rfl, rfl⟩ ?_ _
    rintro i ρ' υ hi ⟨rfl, rfl⟩
    by_cases hil : i < ls.length
    · have hat := lls_at (List.getElem?_eq_getElem hil)
      have hr := h2 _ (List.getElem_mem hil)
      generalize ls[i] = r at hat hr
      simp -dsimp -implicitDefEqProofs only [aw, slots0, V.copy, V.lend, V.lend1, V.cells, V.boxable, over, bldV, boundV, rowsOf, plains, V.plain, Nat.reduceLeDiff, cond_true, cond_false, implies_true, eq_self, ne_eq, reduceIte, reduceCtorEq, Nat.reduceBEq, Nat.reduceLT, Nat.reduceEqDiff, Nat.reduceAdd, Nat.reduceSub, Nat.reduceMul, Int.ofNat_lt, List.length_map, hil, decide_true, hat, iaK_some]
      refine calm_ret (ints_fun _ _ (by simpa using hr) (by simpa using hr) _) ?_
      simp -dsimp -implicitDefEqProofs only [aw, slots0, V.copy, V.lend, V.lend1, V.cells, V.boxable, over, bldV, boundV, rowsOf, plains, V.plain, Nat.reduceLeDiff, cond_true, cond_false, implies_true, eq_self, ne_eq, reduceIte, reduceCtorEq, Nat.reduceBEq, Nat.reduceLT, Nat.reduceEqDiff, Nat.reduceAdd, Nat.reduceSub, Nat.reduceMul, decide_true, wrap_nat hil (show ls.length ≤ 9223372036854775807 by omega)]
      exact ⟨hil, Nxt.same (Nat.le_refl _) hb rfl ⟨rfl, rfl⟩⟩
    · simp -dsimp -implicitDefEqProofs only [aw, slots0, V.copy, V.lend, V.lend1, V.cells, V.boxable, over, bldV, boundV, rowsOf, plains, V.plain, Nat.reduceLeDiff, cond_true, cond_false, implies_true, eq_self, ne_eq, reduceIte, reduceCtorEq, Nat.reduceBEq, Nat.reduceLT, Nat.reduceEqDiff, Nat.reduceAdd, Nat.reduceSub, Nat.reduceMul, Int.ofNat_lt, List.length_map, hil, decide_false]
      refine fun_ret (hr1 _) ?_
      simp -dsimp -implicitDefEqProofs only [aw, slots0, V.copy, V.lend, V.lend1, V.cells, V.boxable, over, bldV, boundV, rowsOf, plains, V.plain, Nat.reduceLeDiff, cond_true, cond_false, implies_true, eq_self, ne_eq, reduceIte, reduceCtorEq, Nat.reduceBEq, Nat.reduceLT, Nat.reduceEqDiff, Nat.reduceAdd, Nat.reduceSub, Nat.reduceMul]
      refine fun_ret (hr2 _) ?_
      simp -dsimp -implicitDefEqProofs only [aw, slots0, V.copy, V.lend, V.lend1, V.cells, V.boxable, over, bldV, boundV, rowsOf, plains, V.plain, Nat.reduceLeDiff, cond_true, cond_false, implies_true, eq_self, ne_eq, reduceIte, reduceCtorEq, Nat.reduceBEq, Nat.reduceLT, Nat.reduceEqDiff, Nat.reduceAdd, Nat.reduceSub, Nat.reduceMul]
      refine fun_ret (tables_fun _ _ h3 h4 _) ?_
      simp -dsimp -implicitDefEqProofs only [aw, slots0, V.copy, V.lend, V.lend1, V.cells, V.boxable, over, bldV, boundV, rowsOf, plains, V.plain, Nat.reduceLeDiff, cond_true, cond_false, implies_true, eq_self, ne_eq, reduceIte, reduceCtorEq, Nat.reduceBEq, Nat.reduceLT, Nat.reduceEqDiff, Nat.reduceAdd, Nat.reduceSub, Nat.reduceMul, decide_true]
      refine fun_ret (awake_fun _) ?_
      simp -dsimp -implicitDefEqProofs only [aw, slots0, V.copy, V.lend, V.lend1, V.cells, V.boxable, over, bldV, boundV, rowsOf, plains, V.plain, Nat.reduceLeDiff, cond_true, cond_false, implies_true, eq_self, ne_eq, reduceIte, reduceCtorEq, Nat.reduceBEq, Nat.reduceLT, Nat.reduceEqDiff, Nat.reduceAdd, Nat.reduceSub, Nat.reduceMul]
      first | exact fin_ret hb rfl rfl List.take_length ⟨rfl, rfl⟩ | exact fin_ret hb rfl rfl List.take_left ⟨rfl, rfl⟩ | (trace_state; fail "fin")
  · simp -dsimp -implicitDefEqProofs only [aw, slots0, V.copy, V.lend, V.lend1, V.cells, V.boxable, over, bldV, boundV, rowsOf, plains, V.plain, Nat.reduceLeDiff, cond_true, cond_false, implies_true, eq_self, ne_eq, reduceIte, reduceCtorEq, Nat.reduceBEq, Nat.reduceLT, Nat.reduceEqDiff, Nat.reduceAdd, Nat.reduceSub, Nat.reduceMul, Int.ofNat_lt, List.length_map, hlt, decide_false, decide_true, ne_eq, he, not_false_eq_true]
    refine fun_ret (awake_fun _) ?_
    simp -dsimp -implicitDefEqProofs only [aw, slots0, V.copy, V.lend, V.lend1, V.cells, V.boxable, over, bldV, boundV, rowsOf, plains, V.plain, Nat.reduceLeDiff, cond_true, cond_false, implies_true, eq_self, ne_eq, reduceIte, reduceCtorEq, Nat.reduceBEq, Nat.reduceLT, Nat.reduceEqDiff, Nat.reduceAdd, Nat.reduceSub, Nat.reduceMul]
    first | exact fin_ret hb rfl rfl List.take_length ⟨rfl, rfl⟩ | exact fin_ret hb rfl rfl List.take_left ⟨rfl, rfl⟩ | (trace_state; fail "fin")
theorem clo_same {n : Nat} {l k : Prs} (hl : ∀ a b, RL l a b → a < n ∧ b < n) (hk : ∀ a b, RL k a b → a < n ∧ b < n) (h : ∀ a b, Bef (RL l) a b ↔ Bef (RL k) a b) : clo n l = clo n k := by
  obtain ⟨h1, h2⟩ := clo_get hl
  obtain ⟨h3, h4⟩ := clo_get hk
  exact sq_ext h1 h3 fun a b ha hb => by rw [Bool.eq_iff_iff, h2 a b ha hb, h4 a b ha hb]; exact h a b
theorem reduces_law (n : Int) (l : Rw) (σ : List (List V)) : Fun G 7 [.d (dint n), .d (drel l)] σ (RetV (vbool true) σ) := by
  cases hf : fewB n l
  · refine fun_code Try.func7 k7 rfl fun hb hw => ?_
    unfold c7
    simp -dsimp -implicitDefEqProofs only [aw, slots0, V.copy, V.lend, V.lend1, V.cells, V.boxable, over, bldV, boundV, rowsOf, plains, V.plain, Nat.reduceLeDiff, cond_true, cond_false, implies_true, eq_self, ne_eq, reduceIte, reduceCtorEq, Nat.reduceBEq, Nat.reduceLT, Nat.reduceEqDiff, Nat.reduceAdd, Nat.reduceSub, Nat.reduceMul]
    refine fun_ret (few_fun n l _) ?_
    rw [hf]
    simp -dsimp -implicitDefEqProofs only [aw, slots0, V.copy, V.lend, V.lend1, V.cells, V.boxable, over, bldV, boundV, rowsOf, plains, V.plain, Nat.reduceLeDiff, cond_true, cond_false, implies_true, eq_self, ne_eq, reduceIte, reduceCtorEq, Nat.reduceBEq, Nat.reduceLT, Nat.reduceEqDiff, Nat.reduceAdd, Nat.reduceSub, Nat.reduceMul]
    refine fun_ret (awake_fun _) ?_
    simp -dsimp -implicitDefEqProofs only [aw, slots0, V.copy, V.lend, V.lend1, V.cells, V.boxable, over, bldV, boundV, rowsOf, plains, V.plain, Nat.reduceLeDiff, cond_true, cond_false, implies_true, eq_self, ne_eq, reduceIte, reduceCtorEq, Nat.reduceBEq, Nat.reduceLT, Nat.reduceEqDiff, Nat.reduceAdd, Nat.reduceSub, Nat.reduceMul]
    first | exact fin_ret hb rfl rfl List.take_length ⟨rfl, rfl⟩ | exact fin_ret hb rfl rfl List.take_left ⟨rfl, rfl⟩ | (trace_state; fail "fin")
  have hlen := few_len hf
  cases hv : validR n l
  · exact reduces_end [] 1 n l hlen (by simp) [] [] (by simp) (fun r hr => by cases hr) (by simp) (fun r hr => by cases hr) hf (fun σ => redu_no n l (by omega) hv σ) (fun σ => refredu_no n l (by omega) hv σ) (fun h => by cases h) (fun h => by cases h) (fun h => by cases h) (fun h => by cases h) σ
  obtain ⟨m, p, rfl, hm, hdr, hpl, rfl, hp⟩ := valid_prs hv
  have ha := fun σ => redu_fun m p hm hp (by omega) hv σ
  have hb' := fun σ => refredu_fun m p hm hp (by omega) hv σ
  have hc := fun σ => lev_fun m p hm hp (by omega) hv σ
  have hr2 := fun σ => grreach_fun (m : Int) (p.map fun q => ((q.1 : Int), (q.2 : Int))) (by omega) σ
  rw [reach_yes hv] at hr2
  have hvl := red_lt (n := m) (t := clo m p)
  have hvr := prs_valid hm hvl
  have hql := redp_len m (clo m p) hm
  have hd := fun σ => lev_fun m (redp m (clo m p)) hm hvl (by omega) hvr σ
  have hr1 := fun σ => grreach_fun (m : Int) ((redp m (clo m p)).map fun q => ((q.1 : Int), (q.2 : Int))) (by rw [List.length_map]; omega) σ
  rw [reach_yes hvr] at hr1
  rw [← hdr] at ha hb' hc
  rcases lev_both hp with ⟨-, hac, -⟩ | ⟨ls, hls, hac, e1, -, g1, g2⟩
  · have hro := (round_acyc hp).2 hac
    unfold redE at ha hb'
    rw [hro, if_pos rfl] at ha hb'
    exact reduces_end [] 10 _ _ hlen (by simp) [] [] (by simp) (fun r hr => by cases hr) (by simp) (fun r hr => by cases hr) hf ha hb' (fun h => by cases h) (fun h => by cases h) (fun h => by cases h) (fun h => by cases h) σ
  · have hro : roundB m (clo m p) = false := by rw [Bool.eq_false_iff]; intro h; exact (round_acyc hp).1 h hac
    unfold redE at ha hb'
    rw [hro, if_neg (by simp)] at ha hb'
    have hbe := red_bef hp hac (clo_get hp).2
    have hls2 : levP m (redp m (clo m p)) = levP m p := by unfold levP; rw [lvls_same hvl hp hbe]
    rw [hls2, e1] at hd
    rw [e1] at hc
    rw [clo_same hvl hp hbe] at hr1
    obtain ⟨k1, k2⟩ := clo_le hm hp
    exact reduces_end _ 0 _ _ hlen hql ls (clo m p) (by omega) (fun r hr => by have := g2 r hr; omega) k1 k2 hf ha hb' (fun _ => hc) (fun _ => hd) (fun _ => hr1) (fun _ => hr2) σ
end Go.Proofs.Ytinenohgemndiaa
