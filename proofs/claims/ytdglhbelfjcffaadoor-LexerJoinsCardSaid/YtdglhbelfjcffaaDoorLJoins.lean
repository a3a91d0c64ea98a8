/-
  The law LexerJoins: its walk.
-/
import Derived.Test.YtdglhbelfjcffaaDoorAw7
set_option linter.unusedVariables false
set_option linter.unusedSimpArgs false
namespace Go.Proofs.YtdglhbelfjcffaaDoor
open Go.RowKit

def lineOne (t : Tok) : Tok := ⟨t.kind, t.num, t.text, 1⟩
theorem one_valid (ts : List Tok) : (ts.map lineOne).all vTok = ts.all vTok := by rw [List.all_map]; rfl
theorem one_join (ts : List Tok) : joinL (ts.map lineOne) = joinL ts := join_texts (by rw [List.map_map]; rfl)
set_option maxHeartbeats 1000000 in
theorem lexerJoins_fun (ts : List Tok) : Fun G 5 [.d (.sl (ts.map tokD))] [] (RetV (.d (.lit (.bool true))) []) := by
  refine fun_code Tryd.func5 k5 rfl fun hb hw => ?_
  unfold c5
  by_cases h30 : 30 < ts.length
  · have h30' : (30 : Int) < ((ts.length : Nat) : Int) := by omega
    simp -dsimp -implicitDefEqProofs only [aw, slots0, V.copy, V.lend, V.lend1, V.cells, V.boxable, over, bldV, boundV, rowsOf, plains, V.plain, Nat.reduceLeDiff, cond_true, cond_false, implies_true, eq_self, ne_eq, reduceIte, reduceCtorEq, Nat.reduceBEq, Nat.reduceLT, Nat.reduceEqDiff, Nat.reduceAdd, Nat.reduceSub, Nat.reduceMul, List.length_map, decide_eq_true h30']
    refine fun_ret (awake_fun _) ?_
    simp -dsimp -implicitDefEqProofs only [aw, slots0, V.copy, V.lend, V.lend1, V.cells, V.boxable, over, bldV, boundV, rowsOf, plains, V.plain, Nat.reduceLeDiff, cond_true, cond_false, implies_true, eq_self, ne_eq, reduceIte, reduceCtorEq, Nat.reduceBEq, Nat.reduceLT, Nat.reduceEqDiff, Nat.reduceAdd, Nat.reduceSub, Nat.reduceMul]
    first | exact fin_ret hb rfl rfl List.take_length ⟨rfl, rfl⟩ | (trace_state; fail "fin")
  have h30' : ¬ (30 : Int) < ((ts.length : Nat) : Int) := by omega
  simp -dsimp -implicitDefEqProofs only [aw, slots0, V.copy, V.lend, V.lend1, V.cells, V.boxable, over, bldV, boundV, rowsOf, plains, V.plain, Nat.reduceLeDiff, cond_true, cond_false, implies_true, eq_self, ne_eq, reduceIte, reduceCtorEq, Nat.reduceBEq, Nat.reduceLT, Nat.reduceEqDiff, Nat.reduceAdd, Nat.reduceSub, Nat.reduceMul, List.length_map, decide_eq_false h30']
  refine awp_forK [0, 3] (R := fun (j : Nat) ρ σ' => ρ = [(0, .d (.sl (ts.map tokD))), (3, vint .i64 j)] ∧ σ' = [] ∧ ∀ t, t ∈ ts.take j → t.text.size ≤ 40) ts.length ⟨rfl, rfl, by simp⟩ ?_ _
  rintro j ρ' σ' hj ⟨rfl, rfl, hs⟩
  by_cases hlt : j < ts.length
  · have htk : ts.take (j + 1) = ts.take j ++ [ts[j]] := by rw [List.take_add_one, List.getElem?_eq_getElem hlt]; rfl
    obtain ⟨tx, htxe⟩ : ∃ l, ts[j].text = bs l := ⟨_, (bs_self _).symm⟩
    by_cases h40 : 40 < tx.length
    · have h40' : (40 : Int) < (tx.length : Nat) := by omega
      simp -dsimp -implicitDefEqProofs only [aw, slots0, V.copy, V.lend, V.lend1, V.cells, V.boxable, over, bldV, boundV, rowsOf, plains, V.plain, Nat.reduceLeDiff, cond_true, cond_false, implies_true, eq_self, ne_eq, reduceIte, reduceCtorEq, Nat.reduceBEq, Nat.reduceLT, Nat.reduceEqDiff, Nat.reduceAdd, Nat.reduceSub, Nat.reduceMul, Int.ofNat_lt, hlt, decide_true, List.getElem?_eq_getElem hlt, tokD, htxe, bs_size, decide_eq_true h40']
      refine fun_ret (awake_fun _) ?_
      simp -dsimp -implicitDefEqProofs only [aw, slots0, V.copy, V.lend, V.lend1, V.cells, V.boxable, over, bldV, boundV, rowsOf, plains, V.plain, Nat.reduceLeDiff, cond_true, cond_false, implies_true, eq_self, ne_eq, reduceIte, reduceCtorEq, Nat.reduceBEq, Nat.reduceLT, Nat.reduceEqDiff, Nat.reduceAdd, Nat.reduceSub, Nat.reduceMul]
      first | exact fin_ret hb rfl rfl List.take_length ⟨rfl, rfl⟩ | (trace_state; fail "fin")
    · have h40' : ¬ (40 : Int) < (tx.length : Nat) := by omega
      simp -dsimp -implicitDefEqProofs only [aw, slots0, V.copy, V.lend, V.lend1, V.cells, V.boxable, over, bldV, boundV, rowsOf, plains, V.plain, Nat.reduceLeDiff, cond_true, cond_false, implies_true, eq_self, ne_eq, reduceIte, reduceCtorEq, Nat.reduceBEq, Nat.reduceLT, Nat.reduceEqDiff, Nat.reduceAdd, Nat.reduceSub, Nat.reduceMul, Int.ofNat_lt, hlt, decide_true, List.getElem?_eq_getElem hlt, tokD, htxe, bs_size, decide_eq_false h40', wrap_nat hlt (show ts.length ≤ 9223372036854775807 by omega)]
      refine Nxt.same (Nat.le_refl _) hb rfl ⟨rfl, rfl, fun t ht => ?_⟩
      rw [htk, List.mem_append, List.mem_singleton] at ht
      rcases ht with ht | rfl
      · exact hs t ht
      · rw [htxe, bs_size]; omega
  rw [List.take_of_length_le (by omega)] at hs
  have hjn := lxjoin_fun ts (by omega) fun t h => Nat.le_trans (hs t h) (by decide)
  have hjn2 := lxjoin_fun (ts.map lineOne) (by rw [List.length_map]; omega) fun t h => by
    obtain ⟨u, hu, rfl⟩ := List.mem_map.1 h
    exact Nat.le_trans (hs u hu) (by decide)
  have hjv : joinV (ts.map lineOne) = joinV ts := by unfold joinV; rw [one_valid, one_join]
  rw [hjv] at hjn2
  unfold joinV at hjn hjn2
  cases hv : ts.all vTok with
  | false =>
    rw [if_neg (by rw [hv]; decide)] at hjn
    simp -dsimp -implicitDefEqProofs only [aw, slots0, V.copy, V.lend, V.lend1, V.cells, V.boxable, over, bldV, boundV, rowsOf, plains, V.plain, Nat.reduceLeDiff, cond_true, cond_false, implies_true, eq_self, ne_eq, reduceIte, reduceCtorEq, Nat.reduceBEq, Nat.reduceLT, Nat.reduceEqDiff, Nat.reduceAdd, Nat.reduceSub, Nat.reduceMul, Int.ofNat_lt, hlt, decide_false]
    refine fun_ret (hjn _) ?_
    simp -dsimp -implicitDefEqProofs only [aw, slots0, V.copy, V.lend, V.lend1, V.cells, V.boxable, over, bldV, boundV, rowsOf, plains, V.plain, Nat.reduceLeDiff, cond_true, cond_false, implies_true, eq_self, ne_eq, reduceIte, reduceCtorEq, Nat.reduceBEq, Nat.reduceLT, Nat.reduceEqDiff, Nat.reduceAdd, Nat.reduceSub, Nat.reduceMul, Int.reduceEq, decide_true, decide_false]
    refine fun_ret (awake_fun _) ?_
    simp -dsimp -implicitDefEqProofs only [aw, slots0, V.copy, V.lend, V.lend1, V.cells, V.boxable, over, bldV, boundV, rowsOf, plains, V.plain, Nat.reduceLeDiff, cond_true, cond_false, implies_true, eq_self, ne_eq, reduceIte, reduceCtorEq, Nat.reduceBEq, Nat.reduceLT, Nat.reduceEqDiff, Nat.reduceAdd, Nat.reduceSub, Nat.reduceMul]
    first | exact fin_ret hb rfl rfl List.take_length ⟨rfl, rfl⟩ | (trace_state; fail "fin")
  | true =>
    rw [if_pos hv] at hjn hjn2
    have hlen := joinL_len 40 ts hs
    have hlen2 : (joinL ts).length ≤ 41 * 30 := Nat.le_trans hlen (Nat.mul_le_mul_left _ (by omega))
    have htk := tokens_fun (joinL ts) (by omega)
    have htj : lexR (joinL ts) = .tup [.d (.sl ((ts.map lineOne).map tokD)), .d (dint 0), .d (dint 0)] := by
      unfold lexR
      rw [if_neg (by omega), toks_join (l := ts) fun t ht => List.all_eq_true.1 hv t ht]
      rfl
    rw [htj] at htk
    simp -dsimp -implicitDefEqProofs only [aw, slots0, V.copy, V.lend, V.lend1, V.cells, V.boxable, over, bldV, boundV, rowsOf, plains, V.plain, Nat.reduceLeDiff, cond_true, cond_false, implies_true, eq_self, ne_eq, reduceIte, reduceCtorEq, Nat.reduceBEq, Nat.reduceLT, Nat.reduceEqDiff, Nat.reduceAdd, Nat.reduceSub, Nat.reduceMul, Int.ofNat_lt, hlt, decide_false]
    refine fun_ret (hjn _) ?_
    simp -dsimp -implicitDefEqProofs only [aw, slots0, V.copy, V.lend, V.lend1, V.cells, V.boxable, over, bldV, boundV, rowsOf, plains, V.plain, Nat.reduceLeDiff, cond_true, cond_false, implies_true, eq_self, ne_eq, reduceIte, reduceCtorEq, Nat.reduceBEq, Nat.reduceLT, Nat.reduceEqDiff, Nat.reduceAdd, Nat.reduceSub, Nat.reduceMul, Int.reduceEq, decide_true]
    refine fun_ret (htk _) ?_
    simp -dsimp -implicitDefEqProofs only [aw, slots0, V.copy, V.lend, V.lend1, V.cells, V.boxable, over, bldV, boundV, rowsOf, plains, V.plain, Nat.reduceLeDiff, cond_true, cond_false, implies_true, eq_self, ne_eq, reduceIte, reduceCtorEq, Nat.reduceBEq, Nat.reduceLT, Nat.reduceEqDiff, Nat.reduceAdd, Nat.reduceSub, Nat.reduceMul, Int.reduceEq, decide_true, List.length_map]
    refine awp_forK [0, 4, 6, 9] (R := fun (i : Nat) ρ σ'' => ρ = [(0, .d (.sl (ts.map tokD))), (4, .d (dstr (bs (joinL ts)))), (6, .d (.sl ((ts.map lineOne).map tokD))), (9, vint .i64 i)] ∧ σ'' = []) ts.length ⟨rfl, rfl⟩ ?_ _
    rintro i ρ' σ'' hi ⟨rfl, rfl⟩
    have heq : G.eqs 30 = true := by kernel_rfl
    by_cases hlt : i < ts.length
    · have h2 : ((ts.map lineOne).map tokD)[i]? = some (tokD (lineOne ts[i])) := by rw [List.getElem?_map, List.getElem?_map, List.getElem?_eq_getElem hlt]; rfl
      generalize (ts.map lineOne).map tokD = us at *
      simp -dsimp -implicitDefEqProofs only [aw, slots0, V.copy, V.lend, V.lend1, V.cells, V.boxable, over, bldV, boundV, rowsOf, plains, V.plain, Nat.reduceLeDiff, cond_true, cond_false, implies_true, eq_self, ne_eq, reduceIte, reduceCtorEq, Nat.reduceBEq, Nat.reduceLT, Nat.reduceEqDiff, Nat.reduceAdd, Nat.reduceSub, Nat.reduceMul, Int.ofNat_lt, hlt, decide_true, List.getElem?_eq_getElem hlt, h2, tokD, lineOne, heq, wrap_nat hlt (show ts.length ≤ 9223372036854775807 by omega)]
      refine Nxt.drop (Nat.le_refl _) hb rfl ⟨rfl, rfl⟩
    · simp -dsimp -implicitDefEqProofs only [aw, slots0, V.copy, V.lend, V.lend1, V.cells, V.boxable, over, bldV, boundV, rowsOf, plains, V.plain, Nat.reduceLeDiff, cond_true, cond_false, implies_true, eq_self, ne_eq, reduceIte, reduceCtorEq, Nat.reduceBEq, Nat.reduceLT, Nat.reduceEqDiff, Nat.reduceAdd, Nat.reduceSub, Nat.reduceMul, Int.ofNat_lt, hlt, decide_false]
      refine fun_ret (hjn2 _) ?_
      simp -dsimp -implicitDefEqProofs only [aw, slots0, V.copy, V.lend, V.lend1, V.cells, V.boxable, over, bldV, boundV, rowsOf, plains, V.plain, Nat.reduceLeDiff, cond_true, cond_false, implies_true, eq_self, ne_eq, reduceIte, reduceCtorEq, Nat.reduceBEq, Nat.reduceLT, Nat.reduceEqDiff, Nat.reduceAdd, Nat.reduceSub, Nat.reduceMul, decide_true]
      refine fun_ret (awake_fun _) ?_
      simp -dsimp -implicitDefEqProofs only [aw, slots0, V.copy, V.lend, V.lend1, V.cells, V.boxable, over, bldV, boundV, rowsOf, plains, V.plain, Nat.reduceLeDiff, cond_true, cond_false, implies_true, eq_self, ne_eq, reduceIte, reduceCtorEq, Nat.reduceBEq, Nat.reduceLT, Nat.reduceEqDiff, Nat.reduceAdd, Nat.reduceSub, Nat.reduceMul]
      first | exact fin_ret hb rfl rfl List.take_length ⟨rfl, rfl⟩ | (trace_state; fail "fin")
end Go.Proofs.YtdglhbelfjcffaaDoor
