/-
  The reference's operators in the plain world.
-/
import Derived.Test.YtibfoafepjggjaaGreatDoorWord3
import Derived.Test.YtibfoafepjggjaaGreatDoorEval
set_option linter.unusedVariables false
set_option linter.unusedSimpArgs false
namespace Go.Proofs.YtibfoafepjggjaaGreatDoor
open Go.RowKit

theorem truth_fun (b : Bool) (σ : List (List V)) : Fun G 85 [.d (.lit (.bool b))] σ (RetV (.d (dint (b2i b))) σ) := by
  refine fun_code Tryz.func85 k85 rfl fun hb hw => ?_
  unfold c85
  cases b
  · simp -dsimp -implicitDefEqProofs only [ev_t, ev_k, get_cons, get_nil, put_cons, put_nil, putd_some, keepOnly_nil, keepOnly_cons, boolT_bool, iteT_false, t_mv, t_nil, w_skip, w_ops, w_seq, w_cond, w_ret, then_normal, slots0, V.copy, eq_self, reduceIte, reduceCtorEq, List.contains_cons, List.contains_nil, Nat.reduceBEq, Nat.reduceLT, Nat.reduceEqDiff, Bool.or_false, Bool.false_eq_true]
    exact fin_ret hb rfl rfl List.take_length ⟨rfl, rfl⟩
  · simp -dsimp -implicitDefEqProofs only [ev_t, ev_k, get_cons, get_nil, put_cons, put_nil, putd_some, keepOnly_nil, keepOnly_cons, boolT_bool, iteT_true, t_mv, t_nil, w_ops, w_seq, w_cond, w_ret, then_normal, then_ret, slots0, V.copy, eq_self, reduceIte, reduceCtorEq, List.contains_cons, List.contains_nil, Nat.reduceBEq, Nat.reduceLT, Nat.reduceEqDiff, Bool.or_false, Bool.false_eq_true]
    exact fin_ret hb rfl rfl List.take_length ⟨rfl, rfl⟩
theorem unary_fun (op : Int) (x : Nat) (hx : x < 65536) (σ : List (List V)) : Fun G 61 [.d (dint op), .d (dint x)] σ (RetV (.d (dint (singleS op x))) σ) := by
  have e0 : (x : Int) % 65536 = x := by omega
  have ix : I64 x := ⟨by omega, by omega⟩
  refine fun_code Tryz.func61 k61 rfl fun hb hw => ?_
  unfold c61
  by_cases h4 : op = 4
  · subst h4
    simp -dsimp -implicitDefEqProofs only [ev_t, ev_k, get_cons, get_nil, put_cons, put_nil, putd_some, keepOnly_nil, keepOnly_cons, optT_some, boolT_bool, iteT_true, t_mv, t_bin, t_call, t_nil, w_ops, w_seq, w_cond, w_block, then_normal, slots0, V.copy, V.lend, v_eql, Nat.zero_add, eq_self, reduceIte, reduceCtorEq, List.contains_cons, List.contains_nil, List.map_cons, List.map_nil, Nat.reduceBEq, Nat.reduceLT, Nat.reduceEqDiff, Bool.or_false, Bool.or_true, Bool.false_eq_true, decide_true]
    refine fun_ret (truth_fun _ _) ?_
    simp -dsimp -implicitDefEqProofs only [ev_t, get_cons, get_nil, put_cons, put_nil, putd_some, keepOnly_nil, keepOnly_cons, t_mv, t_call, t_nil, w_ops, w_seq, w_ret, then_normal, then_ret, blk_ret, V.copy, V.lend, eq_self, reduceIte, List.contains_cons, List.contains_nil, List.map_cons, List.map_nil, Nat.reduceBEq, Nat.reduceLT, Nat.reduceEqDiff, Bool.or_false, Bool.false_eq_true]
    exact fin_ret hb rfl rfl List.take_length ⟨rfl, rfl⟩
  by_cases h5 : op = 5
  · subst h5
    simp -dsimp -implicitDefEqProofs only [ev_t, ev_k, get_cons, get_nil, put_cons, put_nil, putd_some, keepOnly_nil, keepOnly_cons, optT_some, boolT_bool, iteT_true, iteT_false, t_mv, t_bin, t_call, t_nil, w_ops, w_seq, w_cond, w_block, then_normal, slots0, V.copy, V.lend, v_eql, Nat.zero_add, eq_self, reduceIte, reduceCtorEq, List.contains_cons, List.contains_nil, List.map_cons, List.map_nil, Nat.reduceBEq, Nat.reduceLT, Nat.reduceEqDiff, Bool.or_false, Bool.or_true, Bool.false_eq_true, Int.reduceEq, decide_true, decide_false]
    refine fun_ret (r2inv_fun x ix _) ?_
    simp -dsimp -implicitDefEqProofs only [ev_t, get_cons, get_nil, put_cons, put_nil, putd_some, keepOnly_nil, keepOnly_cons, t_mv, t_call, t_nil, w_ops, w_seq, w_ret, then_normal, then_ret, blk_ret, V.copy, V.lend, eq_self, reduceIte, List.contains_cons, List.contains_nil, List.map_cons, List.map_nil, Nat.reduceBEq, Nat.reduceLT, Nat.reduceEqDiff, Bool.or_false, Bool.false_eq_true]
    exact fin_ret hb rfl rfl List.take_length ⟨rfl, rfl⟩
  by_cases h6 : op = 6
  · subst h6
    simp -dsimp -implicitDefEqProofs only [ev_t, ev_k, get_cons, get_nil, put_cons, put_nil, putd_some, keepOnly_nil, keepOnly_cons, optT_some, boolT_bool, iteT_true, iteT_false, t_mv, t_bin, t_call, t_nil, w_ops, w_seq, w_cond, w_block, then_normal, slots0, V.copy, V.lend, v_eql, Nat.zero_add, eq_self, reduceIte, reduceCtorEq, List.contains_cons, List.contains_nil, List.map_cons, List.map_nil, Nat.reduceBEq, Nat.reduceLT, Nat.reduceEqDiff, Bool.or_false, Bool.or_true, Bool.false_eq_true, Int.reduceEq, decide_true, decide_false]
    refine fun_ret (r2neg_fun x ix _) ?_
    simp -dsimp -implicitDefEqProofs only [ev_t, get_cons, get_nil, put_cons, put_nil, putd_some, keepOnly_nil, keepOnly_cons, t_mv, t_call, t_nil, w_ops, w_seq, w_ret, then_normal, then_ret, blk_ret, V.copy, V.lend, eq_self, reduceIte, List.contains_cons, List.contains_nil, List.map_cons, List.map_nil, Nat.reduceBEq, Nat.reduceLT, Nat.reduceEqDiff, Bool.or_false, Bool.false_eq_true]
    exact fin_ret hb rfl rfl List.take_length ⟨rfl, rfl⟩
  simp -dsimp -implicitDefEqProofs only [ev_t, ev_k, get_cons, get_nil, put_cons, put_nil, putd_some, keepOnly_nil, keepOnly_cons, optT_some, boolT_bool, iteT_false, t_mv, t_bin, t_call, t_nil, w_skip, w_ops, w_seq, w_cond, w_block, then_normal, blk_normal, slots0, V.copy, V.lend, v_eql, Nat.zero_add, eq_self, reduceIte, reduceCtorEq, List.contains_cons, List.contains_nil, List.map_cons, List.map_nil, Nat.reduceBEq, Nat.reduceLT, Nat.reduceEqDiff, Bool.or_false, Bool.or_true, Bool.false_eq_true, decide_eq_false h4, decide_eq_false h5, decide_eq_false h6]
  refine fun_ret (r2ones_fun x hx _) ?_
  simp -dsimp -implicitDefEqProofs only [ev_t, get_cons, get_nil, put_cons, put_nil, putd_some, keepOnly_nil, keepOnly_cons, t_mv, t_nil, w_ret, then_normal, V.copy, eq_self, reduceIte, List.contains_cons, List.contains_nil, Nat.reduceBEq, Nat.reduceLT, Nat.reduceEqDiff, Bool.or_false, Bool.false_eq_true]
  refine fin_ret hb rfl rfl List.take_length ⟨?_, rfl⟩
  unfold singleS
  rw [if_neg h4, if_neg h5, if_neg h6, e0]
  rfl
theorem binary_fun (op : Int) (h21 : op ≤ 21) (h7 : 7 ≤ op) (x y : Nat) (hx : x < 65536) (hy : y < 65536) (σ : List (List V)) : Fun G 62 [.d (dint op), .d (dint x), .d (dint y)] σ (RetV (.d (dint (doubleS op x y))) σ) := by
  have e0 : (x : Int) % 65536 = x := by omega
  have ix : I64 x := ⟨by omega, by omega⟩
  have iy : I64 y := ⟨by omega, by omega⟩
  refine fun_code Tryz.func62 k62 rfl fun hb hw => ?_
  unfold c62
  have hc : op = 7 ∨ op = 8 ∨ op = 9 ∨ op = 10 ∨ op = 11 ∨ op = 12 ∨ op = 13 ∨ op = 14 ∨ op = 15 ∨ op = 16 ∨ op = 17 ∨ op = 18 ∨ op = 19 ∨ op = 20 ∨ op = 21 := by omega
  clear h21 h7
  rcases hc with rfl | rfl | rfl | rfl | rfl | rfl | rfl | rfl | rfl | rfl | rfl | rfl | rfl | rfl | rfl
  all_goals
    simp -dsimp -implicitDefEqProofs only [ev_t, ev_k, get_cons, get_nil, put_cons, put_nil, putd_some, keepOnly_nil, keepOnly_cons, optT_some, boolT_bool, iteT_true, iteT_false, t_mv, t_bin, t_call, t_guard, t_nil, w_skip, w_ops, w_seq, w_cond, w_block, then_normal, blk_normal, slots0, V.copy, V.lend, v_eql, v_neq, v_lss, v_leq, Nat.zero_add, eq_self, reduceIte, reduceCtorEq, List.contains_cons, List.contains_nil, List.map_cons, List.map_nil, Nat.reduceBEq, Nat.reduceLT, Nat.reduceEqDiff, Bool.or_false, Bool.or_true, Bool.false_eq_true, bq_true, bq_false, Bool.not_not, Nat.reduceAdd, Int.reduceEq, decide_true, decide_false]
  · refine fun_ret (r2add_fun x y ix iy _) ?_
    simp -dsimp -implicitDefEqProofs only [ev_t, ev_k, get_cons, get_nil, put_cons, put_nil, putd_some, keepOnly_nil, keepOnly_cons, t_mv, t_bin, t_nil, w_ops, w_seq, w_ret, then_normal, then_ret, blk_ret, V.copy, eq_self, reduceIte, List.contains_cons, List.contains_nil, Nat.reduceBEq, Nat.reduceLT, Nat.reduceEqDiff, Bool.or_false, Bool.false_eq_true]
    exact fin_ret hb rfl rfl List.take_length ⟨rfl, rfl⟩
  · refine fun_ret (r2sub_fun x y ix iy _) ?_
    simp -dsimp -implicitDefEqProofs only [ev_t, ev_k, get_cons, get_nil, put_cons, put_nil, putd_some, keepOnly_nil, keepOnly_cons, t_mv, t_bin, t_nil, w_ops, w_seq, w_ret, then_normal, then_ret, blk_ret, V.copy, eq_self, reduceIte, List.contains_cons, List.contains_nil, Nat.reduceBEq, Nat.reduceLT, Nat.reduceEqDiff, Bool.or_false, Bool.false_eq_true]
    exact fin_ret hb rfl rfl List.take_length ⟨rfl, rfl⟩
  · refine fun_ret (r2mul_fun x y ix iy _) ?_
    simp -dsimp -implicitDefEqProofs only [ev_t, ev_k, get_cons, get_nil, put_cons, put_nil, putd_some, keepOnly_nil, keepOnly_cons, t_mv, t_bin, t_nil, w_ops, w_seq, w_ret, then_normal, then_ret, blk_ret, V.copy, eq_self, reduceIte, List.contains_cons, List.contains_nil, Nat.reduceBEq, Nat.reduceLT, Nat.reduceEqDiff, Bool.or_false, Bool.false_eq_true]
    exact fin_ret hb rfl rfl List.take_length ⟨rfl, rfl⟩
  · refine fun_ret (r2and_fun x y hx hy _) ?_
    simp -dsimp -implicitDefEqProofs only [ev_t, ev_k, get_cons, get_nil, put_cons, put_nil, putd_some, keepOnly_nil, keepOnly_cons, t_mv, t_bin, t_nil, w_ops, w_seq, w_ret, then_normal, then_ret, blk_ret, V.copy, eq_self, reduceIte, List.contains_cons, List.contains_nil, Nat.reduceBEq, Nat.reduceLT, Nat.reduceEqDiff, Bool.or_false, Bool.false_eq_true]
    exact fin_ret hb rfl rfl List.take_length ⟨rfl, rfl⟩
  · refine fun_ret (r2or_fun x y hx hy _) ?_
    simp -dsimp -implicitDefEqProofs only [ev_t, ev_k, get_cons, get_nil, put_cons, put_nil, putd_some, keepOnly_nil, keepOnly_cons, t_mv, t_bin, t_nil, w_ops, w_seq, w_ret, then_normal, then_ret, blk_ret, V.copy, eq_self, reduceIte, List.contains_cons, List.contains_nil, Nat.reduceBEq, Nat.reduceLT, Nat.reduceEqDiff, Bool.or_false, Bool.false_eq_true]
    exact fin_ret hb rfl rfl List.take_length ⟨rfl, rfl⟩
  · refine fun_ret (r2xor_fun x y hx hy _) ?_
    simp -dsimp -implicitDefEqProofs only [ev_t, ev_k, get_cons, get_nil, put_cons, put_nil, putd_some, keepOnly_nil, keepOnly_cons, t_mv, t_bin, t_nil, w_ops, w_seq, w_ret, then_normal, then_ret, blk_ret, V.copy, eq_self, reduceIte, List.contains_cons, List.contains_nil, Nat.reduceBEq, Nat.reduceLT, Nat.reduceEqDiff, Bool.or_false, Bool.false_eq_true]
    exact fin_ret hb rfl rfl List.take_length ⟨rfl, rfl⟩
  · refine fun_ret (r2shl_fun x hx y _) ?_
    simp -dsimp -implicitDefEqProofs only [ev_t, ev_k, get_cons, get_nil, put_cons, put_nil, putd_some, keepOnly_nil, keepOnly_cons, t_mv, t_bin, t_nil, w_ops, w_seq, w_ret, then_normal, then_ret, blk_ret, V.copy, eq_self, reduceIte, List.contains_cons, List.contains_nil, Nat.reduceBEq, Nat.reduceLT, Nat.reduceEqDiff, Bool.or_false, Bool.false_eq_true]
    exact fin_ret hb rfl rfl List.take_length ⟨by rw [show doubleS 13 (x : Int) y = shlS x y by unfold doubleS; rw [e0]; rfl]; rfl, rfl⟩
  · refine fun_ret (r2shr_fun x hx y _) ?_
    simp -dsimp -implicitDefEqProofs only [ev_t, ev_k, get_cons, get_nil, put_cons, put_nil, putd_some, keepOnly_nil, keepOnly_cons, t_mv, t_bin, t_nil, w_ops, w_seq, w_ret, then_normal, then_ret, blk_ret, V.copy, eq_self, reduceIte, List.contains_cons, List.contains_nil, Nat.reduceBEq, Nat.reduceLT, Nat.reduceEqDiff, Bool.or_false, Bool.false_eq_true]
    exact fin_ret hb rfl rfl List.take_length ⟨by rw [show doubleS 14 (x : Int) y = shrS x y by unfold doubleS; rw [e0]; rfl]; rfl, rfl⟩
  · refine fun_ret (truth_fun _ _) ?_
    simp -dsimp -implicitDefEqProofs only [ev_t, ev_k, get_cons, get_nil, put_cons, put_nil, putd_some, keepOnly_nil, keepOnly_cons, t_mv, t_bin, t_nil, w_ops, w_seq, w_ret, then_normal, then_ret, blk_ret, V.copy, eq_self, reduceIte, List.contains_cons, List.contains_nil, Nat.reduceBEq, Nat.reduceLT, Nat.reduceEqDiff, Bool.or_false, Bool.false_eq_true]
    exact fin_ret hb rfl rfl List.take_length ⟨rfl, rfl⟩
  · refine fun_ret (truth_fun _ _) ?_
    simp -dsimp -implicitDefEqProofs only [ev_t, ev_k, get_cons, get_nil, put_cons, put_nil, putd_some, keepOnly_nil, keepOnly_cons, t_mv, t_bin, t_nil, w_ops, w_seq, w_ret, then_normal, then_ret, blk_ret, V.copy, eq_self, reduceIte, List.contains_cons, List.contains_nil, Nat.reduceBEq, Nat.reduceLT, Nat.reduceEqDiff, Bool.or_false, Bool.false_eq_true]
    exact fin_ret hb rfl rfl List.take_length ⟨rfl, rfl⟩
  · refine fun_ret (truth_fun _ _) ?_
    simp -dsimp -implicitDefEqProofs only [ev_t, ev_k, get_cons, get_nil, put_cons, put_nil, putd_some, keepOnly_nil, keepOnly_cons, t_mv, t_bin, t_nil, w_ops, w_seq, w_ret, then_normal, then_ret, blk_ret, V.copy, eq_self, reduceIte, List.contains_cons, List.contains_nil, Nat.reduceBEq, Nat.reduceLT, Nat.reduceEqDiff, Bool.or_false, Bool.false_eq_true]
    exact fin_ret hb rfl rfl List.take_length ⟨rfl, rfl⟩
  · refine fun_ret (truth_fun _ _) ?_
    simp -dsimp -implicitDefEqProofs only [ev_t, ev_k, get_cons, get_nil, put_cons, put_nil, putd_some, keepOnly_nil, keepOnly_cons, t_mv, t_bin, t_nil, w_ops, w_seq, w_ret, then_normal, then_ret, blk_ret, V.copy, eq_self, reduceIte, List.contains_cons, List.contains_nil, Nat.reduceBEq, Nat.reduceLT, Nat.reduceEqDiff, Bool.or_false, Bool.false_eq_true]
    exact fin_ret hb rfl rfl List.take_length ⟨rfl, rfl⟩
  · by_cases hx0 : (x : Int) = 0
    · simp -dsimp -implicitDefEqProofs only [ev_t, ev_k, get_cons, get_nil, put_cons, put_nil, putd_some, optT_some, boolT_bool, iteT_false, t_pick, t_call, t_guard, V.lend, v_pick_jf, eq_self, Bool.not_true, reduceIte, List.map_cons, List.map_nil, Nat.reduceLT, Nat.reduceEqDiff, bq_true, decide_eq_true hx0]
      refine fun_ret (truth_fun _ _) ?_
      simp -dsimp -implicitDefEqProofs only [ev_t, ev_k, get_cons, get_nil, put_cons, put_nil, putd_some, keepOnly_nil, keepOnly_cons, t_mv, t_bin, t_nil, w_ops, w_seq, w_ret, then_normal, then_ret, blk_ret, V.copy, eq_self, reduceIte, List.contains_cons, List.contains_nil, Nat.reduceBEq, Nat.reduceLT, Nat.reduceEqDiff, Bool.or_false, Bool.false_eq_true]
      refine fin_ret hb rfl rfl List.take_length ⟨?_, rfl⟩
      have hx1 : ((x : Int) != 0) = false := by simp [hx0]
      show _ = Out.ret (V.d (dint (b2i (((x : Int) != 0) && ((y : Int) != 0)))))
      rw [hx1]
      rfl
    · simp -dsimp -implicitDefEqProofs only [ev_t, ev_k, get_cons, get_nil, put_cons, put_nil, putd_some, optT_some, boolT_bool, iteT_true, t_mv, t_pick, t_bin, t_call, t_guard, V.copy, V.lend, v_neq, v_pick, cond_true, eq_self, Bool.not_false, reduceIte, List.map_cons, List.map_nil, Nat.reduceLT, Nat.reduceEqDiff, bq_true, decide_eq_false hx0]
      refine fun_ret (truth_fun _ _) ?_
      simp -dsimp -implicitDefEqProofs only [ev_t, ev_k, get_cons, get_nil, put_cons, put_nil, putd_some, keepOnly_nil, keepOnly_cons, t_mv, t_bin, t_nil, w_ops, w_seq, w_ret, then_normal, then_ret, blk_ret, V.copy, eq_self, reduceIte, List.contains_cons, List.contains_nil, Nat.reduceBEq, Nat.reduceLT, Nat.reduceEqDiff, Bool.or_false, Bool.false_eq_true]
      refine fin_ret hb rfl rfl List.take_length ⟨?_, rfl⟩
      have hx1 : ((x : Int) != 0) = true := bne_iff_ne.2 hx0
      show _ = Out.ret (V.d (dint (b2i (((x : Int) != 0) && ((y : Int) != 0)))))
      rw [hx1]
      rfl
  · by_cases hx0 : (x : Int) = 0
    · simp -dsimp -implicitDefEqProofs only [ev_t, ev_k, get_cons, get_nil, put_cons, put_nil, putd_some, optT_some, boolT_bool, iteT_true, t_mv, t_pick, t_bin, t_call, t_guard, V.copy, V.lend, v_neq, v_pick, cond_false, eq_self, Bool.not_true, Bool.not_false, reduceIte, List.map_cons, List.map_nil, Nat.reduceLT, Nat.reduceEqDiff, bq_false, decide_eq_true hx0]
      refine fun_ret (truth_fun _ _) ?_
      simp -dsimp -implicitDefEqProofs only [ev_t, ev_k, get_cons, get_nil, put_cons, put_nil, putd_some, keepOnly_nil, keepOnly_cons, t_mv, t_bin, t_nil, w_ops, w_seq, w_ret, then_normal, then_ret, blk_ret, V.copy, eq_self, reduceIte, List.contains_cons, List.contains_nil, Nat.reduceBEq, Nat.reduceLT, Nat.reduceEqDiff, Bool.or_false, Bool.false_eq_true]
      refine fin_ret hb rfl rfl List.take_length ⟨?_, rfl⟩
      have hx1 : ((x : Int) != 0) = false := by simp [hx0]
      show _ = Out.ret (V.d (dint (b2i (((x : Int) != 0) || ((y : Int) != 0)))))
      rw [hx1]
      rfl
    · simp -dsimp -implicitDefEqProofs only [ev_t, ev_k, get_cons, get_nil, put_cons, put_nil, putd_some, optT_some, boolT_bool, iteT_false, t_pick, t_call, t_guard, V.lend, v_pick_tj, eq_self, Bool.not_true, Bool.not_false, reduceIte, List.map_cons, List.map_nil, Nat.reduceLT, Nat.reduceEqDiff, bq_false, decide_eq_false hx0]
      refine fun_ret (truth_fun _ _) ?_
      simp -dsimp -implicitDefEqProofs only [ev_t, ev_k, get_cons, get_nil, put_cons, put_nil, putd_some, keepOnly_nil, keepOnly_cons, t_mv, t_bin, t_nil, w_ops, w_seq, w_ret, then_normal, then_ret, blk_ret, V.copy, eq_self, reduceIte, List.contains_cons, List.contains_nil, Nat.reduceBEq, Nat.reduceLT, Nat.reduceEqDiff, Bool.or_false, Bool.false_eq_true]
      refine fin_ret hb rfl rfl List.take_length ⟨?_, rfl⟩
      have hx1 : ((x : Int) != 0) = true := bne_iff_ne.2 hx0
      show _ = Out.ret (V.d (dint (b2i (((x : Int) != 0) || ((y : Int) != 0)))))
      rw [hx1]
      rfl
  · by_cases hx0 : (x : Int) = 0
    · simp -dsimp -implicitDefEqProofs only [ev_t, ev_k, get_cons, get_nil, put_cons, put_nil, putd_some, optT_some, boolT_bool, iteT_false, t_pick, t_call, t_guard, V.lend, v_pick_tj, eq_self, Bool.not_true, Bool.not_false, reduceIte, List.map_cons, List.map_nil, Nat.reduceLT, Nat.reduceEqDiff, bq_false, decide_eq_true hx0]
      refine fun_ret (truth_fun _ _) ?_
      simp -dsimp -implicitDefEqProofs only [ev_t, get_cons, get_nil, put_cons, put_nil, putd_some, keepOnly_nil, keepOnly_cons, t_mv, t_nil, w_ret, then_normal, V.copy, eq_self, reduceIte, List.contains_cons, List.contains_nil, Nat.reduceBEq, Nat.reduceLT, Nat.reduceEqDiff, Bool.or_false, Bool.false_eq_true]
      refine fin_ret hb rfl rfl List.take_length ⟨?_, rfl⟩
      have hx1 : ((x : Int) == 0) = true := by simp [hx0]
      show _ = Out.ret (V.d (dint (b2i (((x : Int) == 0) || ((y : Int) != 0)))))
      rw [hx1]
      rfl
    · simp -dsimp -implicitDefEqProofs only [ev_t, ev_k, get_cons, get_nil, put_cons, put_nil, putd_some, optT_some, boolT_bool, iteT_true, t_mv, t_pick, t_bin, t_call, t_guard, V.copy, V.lend, v_neq, v_pick, cond_false, eq_self, Bool.not_false, reduceIte, List.map_cons, List.map_nil, Nat.reduceLT, Nat.reduceEqDiff, bq_false, decide_eq_false hx0]
      refine fun_ret (truth_fun _ _) ?_
      simp -dsimp -implicitDefEqProofs only [ev_t, get_cons, get_nil, put_cons, put_nil, putd_some, keepOnly_nil, keepOnly_cons, t_mv, t_nil, w_ret, then_normal, V.copy, eq_self, reduceIte, List.contains_cons, List.contains_nil, Nat.reduceBEq, Nat.reduceLT, Nat.reduceEqDiff, Bool.or_false, Bool.false_eq_true]
      refine fin_ret hb rfl rfl List.take_length ⟨?_, rfl⟩
      have hx1 : ((x : Int) == 0) = false := beq_eq_false_iff_ne.2 hx0
      show _ = Out.ret (V.d (dint (b2i (((x : Int) == 0) || ((y : Int) != 0)))))
      rw [hx1]
      rfl
theorem dints_at (l : List Int) (i : Nat) (h : i < l.length) : (l.map fun x => [dint x])[i]? = some [dint l[i]] := by rw [List.getElem?_map, List.getElem?_eq_getElem h]; rfl
/-- Operands within a word, as numbers. -/
theorem wd_nat {x : Int} (h : Wd x) : ∃ n : Nat, x = n ∧ n < 65536 := by
  unfold Wd at h
  exact ⟨x.toNat, by omega, by omega⟩
theorem operate_fun (op : Int) (l : List Int) (hop : operB op l.length = true) (h1 : 1 ≤ op) (h25 : op ≤ 25) (n1 : ¬ op = 1) (n2 : ¬ op = 2) (n3 : ¬ op = 3) (n24 : ¬ op = 24) (hw' : ∀ x, x ∈ l → Wd x) (σ : List (List V)) :
    Fun G 42 [.d (dint op), .d (.sl (l.map fun x => [dint x]))] σ (RetV (.d (dint (operS op l))) σ) := by
  refine fun_code Tryz.func42 k42 rfl fun hb hw => ?_
  unfold c42
  by_cases h22 : op = 22
  · subst h22
    match l, hop with
    | [a, b, c], _ =>
    have e0 : ∀ rest : List (List D), iaV 1 (V.d (D.sl ([dint a] :: rest))) (V.d (D.lit (Value.int IntKind.i64 0))) = some (.row [dint a] 0) := fun _ => rfl
    have e1 : iaV 1 (V.d (D.sl [[dint a], [dint b], [dint c]])) (V.d (D.lit (Value.int IntKind.i64 1))) = some (.row [dint b] 0) := rfl
    have e2 : iaV 1 (V.d (D.sl [[dint a], [dint b], [dint c]])) (V.d (D.lit (Value.int IntKind.i64 2))) = some (.row [dint c] 0) := rfl
    by_cases ha : a = 0
    · simp -dsimp -implicitDefEqProofs only [ev_t, ev_k, get_cons, get_nil, put_cons, put_nil, putd_some, keepOnly_nil, keepOnly_cons, optT_some, boolT_bool, iteT_true, iteT_false, t_mv, t_bin, t_ia, t_load, t_nil, w_skip, w_ops, w_seq, w_cond, w_ret, then_normal, then_ret, slots0, V.copy, v_eql, v_neq, v_pack1, v_load_row, Option.bind_some, List.drop_zero, List.take_succ_cons, List.take_zero, List.length_cons, List.length_nil, Nat.zero_add, Nat.reduceLeDiff, eq_self, Bool.not_true, reduceIte, reduceCtorEq, List.contains_cons, List.contains_nil, List.map_cons, List.map_nil, Nat.reduceBEq, Nat.reduceLT, Nat.reduceEqDiff, Bool.or_false, Bool.or_true, Bool.false_eq_true, decide_true, e0, e2, decide_eq_true ha]
      exact fin_ret hb rfl rfl List.take_length ⟨by show _ = Out.ret (V.d (dint (if a = 0 then c else b))); rw [if_pos ha]; rfl, rfl⟩
    · simp -dsimp -implicitDefEqProofs only [ev_t, ev_k, get_cons, get_nil, put_cons, put_nil, putd_some, keepOnly_nil, keepOnly_cons, optT_some, boolT_bool, iteT_true, t_mv, t_bin, t_ia, t_load, t_nil, w_ops, w_seq, w_cond, w_ret, then_normal, then_ret, slots0, V.copy, v_eql, v_neq, v_pack1, v_load_row, Option.bind_some, List.drop_zero, List.take_succ_cons, List.take_zero, List.length_cons, List.length_nil, Nat.zero_add, Nat.reduceLeDiff, eq_self, Bool.not_false, reduceIte, reduceCtorEq, List.contains_cons, List.contains_nil, List.map_cons, List.map_nil, Nat.reduceBEq, Nat.reduceLT, Nat.reduceEqDiff, Bool.or_false, Bool.or_true, Bool.false_eq_true, decide_true, e0, e1, decide_eq_false ha]
      exact fin_ret hb rfl rfl List.take_length ⟨by show _ = Out.ret (V.d (dint (if a = 0 then c else b))); rw [if_neg ha]; rfl, rfl⟩
  by_cases h23 : op = 23
  · subst h23
    obtain ⟨m, hm, hm2⟩ : ∃ m, l.length = 1 + 2 * m ∧ m ≤ 16 := by
      simp only [operB, if_true, Bool.and_eq_true, decide_eq_true_eq] at hop
      exact ⟨(l.length - 1) / 2, by omega, by omega⟩
    obtain ⟨x, r, rfl⟩ : ∃ x r, l = x :: r := by
      cases l with
      | nil => simp at hm; omega
      | cons x r => exact ⟨x, r, rfl⟩
    have hr : r.length = 2 * m := by simp at hm; omega
    have hspec : operS 23 (x :: r) = b2i (insideL x r) := rfl
    generalize hl : x :: r = l at *
    have l0 : l[0]? = some x := by rw [← hl]; rfl
    have hdr : ∀ j, j < m → ∃ a b, l[1 + 2 * j]? = some a ∧ l[2 + 2 * j]? = some b ∧ r.drop (2 * j) = a :: b :: r.drop (2 * (j + 1)) := by
      intro j hj
      refine ⟨r[2 * j], r[2 * j + 1], ?_, ?_, ?_⟩
      · rw [← hl, show 1 + 2 * j = 2 * j + 1 by omega, List.getElem?_cons_succ]; exact List.getElem?_eq_getElem (by omega)
      · rw [← hl, show 2 + 2 * j = (2 * j + 1) + 1 by omega, List.getElem?_cons_succ]; exact List.getElem?_eq_getElem (by omega)
      · rw [List.drop_eq_getElem_cons (show 2 * j < r.length by omega), List.drop_eq_getElem_cons (show 2 * j + 1 < r.length by omega), show 2 * j + 1 + 1 = 2 * (j + 1) by omega]
    have i0 : iaV 1 (V.d (D.sl (l.map fun x => [dint x]))) (V.d (D.lit (Value.int IntKind.i64 0))) = some (.row [dint x] 0) := by rw [← hl]; rfl
    simp -dsimp -implicitDefEqProofs only [ev_t, ev_k, get_cons, get_nil, put_cons, put_nil, putd_some, keepOnly_nil, keepOnly_cons, optT_some, boolT_bool, iteT_true, iteT_false, t_mv, t_bin, t_len, t_nil, w_skip, w_ops, w_seq, w_cond, w_block, w_ret, then_normal, then_ret, slots0, V.copy, v_eql, Nat.zero_add, eq_self, reduceIte, reduceCtorEq, List.contains_cons, List.contains_nil, Nat.reduceBEq, Nat.reduceLT, Nat.reduceEqDiff, Bool.or_false, Bool.or_true, Bool.false_eq_true, Int.reduceEq, decide_true, decide_false]
    refine awp_for (R := fun (j : Nat) ρ σ' => ρ = [(1, .d (.sl (l.map fun x => [dint x]))), (5, vint .i64 ((1 + 2 * j : Nat) : Int))] ∧ σ' = σ ∧ insideL x r = insideL x (r.drop (2 * j))) m ⟨rfl, rfl, rfl⟩ ?_ _
    rintro j ρ' σ' hj ⟨rfl, rfl, hrec⟩
    have w1 : IntKind.i64.wrap (((1 + 2 * j : Nat) : Int) + 1) = ((2 + 2 * j : Nat) : Int) := by rw [wi (by omega) (by omega)]; omega
    have w2 : IntKind.i64.wrap (((1 + 2 * j : Nat) : Int) + 2) = ((1 + 2 * (j + 1) : Nat) : Int) := by rw [wi (by omega) (by omega)]; omega
    by_cases hlt : j < m
    · obtain ⟨a, b, ha, hb2, hd⟩ := hdr j hlt
      have hst : insideL x (r.drop (2 * j)) = ((decide (a ≤ x) && decide (x ≤ b)) || insideL x (r.drop (2 * (j + 1)))) := by rw [hd]; rfl
      by_cases q1 : a ≤ x
      · by_cases q2 : x ≤ b
        · simp -dsimp -implicitDefEqProofs only [ev_t, ev_k, get_cons, get_nil, put_cons, put_nil, putd_some, keepOnly_nil, keepOnly_cons, optT_some, boolT_bool, iteT_true, t_mv, c_mv, c_pick, t_bin, c_bin, c_ia, t_len, c_load, t_nil, c_guard, c_nil, w_skip, w_ops, w_draw, w_seq, w_cond, w_block, w_ret, then_normal, then_ret, blk_ret, V.copy, v_len_d, v_rows_d, v_add, v_lss, v_leq, v_geq, v_pick, iaK_some, v_ia_nat, v_pack1, v_load_row, Option.bind_some, Option.map_some, List.getElem?_map, List.length_map, List.drop_zero, List.take_succ_cons, List.take_zero, List.length_cons, List.length_nil, Nat.zero_add, Nat.reduceLeDiff, cond_true, eq_self, reduceIte, List.contains_cons, List.contains_nil, List.map_cons, List.map_nil, Nat.reduceBEq, Nat.reduceLT, Nat.reduceEqDiff, Bool.or_false, Bool.or_true, Bool.false_eq_true, bq_true, w1, i0, decide_eq_true (show (((2 + 2 * j : Nat) : Int) < (l.length : Int)) by omega), ha, hb2, decide_eq_true q1, decide_eq_true q2]
          exact fin_ret hb rfl rfl List.take_length ⟨by rw [hspec, hrec, hst, decide_eq_true q1, decide_eq_true q2]; rfl, rfl⟩
        · simp -dsimp -implicitDefEqProofs only [ev_t, ev_k, get_cons, get_nil, put_cons, put_nil, putd_some, keepOnly_nil, keepOnly_cons, optT_some, boolT_bool, iteT_true, iteT_false, t_mv, c_mv, c_pick, t_bin, c_bin, c_ia, t_len, c_load, t_nil, c_guard, c_nil, w_skip, w_ops, w_draw, w_seq, w_cond, w_block, w_ret, then_normal, then_ret, blk_normal, V.copy, v_len_d, v_rows_d, v_add, v_lss, v_leq, v_geq, v_pick, iaK_some, v_ia_nat, v_pack1, v_load_row, Option.bind_some, Option.map_some, List.getElem?_map, List.length_map, List.drop_zero, List.take_succ_cons, List.take_zero, List.length_cons, List.length_nil, Nat.zero_add, Nat.reduceLeDiff, cond_true, eq_self, reduceIte, List.contains_cons, List.contains_nil, List.map_cons, List.map_nil, Nat.reduceBEq, Nat.reduceLT, Nat.reduceEqDiff, Bool.or_false, Bool.or_true, Bool.false_eq_true, bq_true, w1, i0, decide_eq_true (show (((2 + 2 * j : Nat) : Int) < (l.length : Int)) by omega), ha, hb2, decide_eq_true q1, decide_eq_false q2, w2]
          exact ⟨hlt, Nxt.same (by simp) hb rfl ⟨rfl, rfl, by rw [hrec, hst, decide_eq_false q2, Bool.and_false, Bool.false_or]⟩⟩
      · simp -dsimp -implicitDefEqProofs only [ev_t, ev_k, get_cons, get_nil, put_cons, put_nil, putd_some, keepOnly_nil, keepOnly_cons, optT_some, boolT_bool, iteT_true, iteT_false, t_mv, c_mv, c_pick, t_bin, c_bin, c_ia, t_len, c_load, t_nil, c_guard, c_nil, w_skip, w_ops, w_draw, w_seq, w_cond, w_block, w_ret, then_normal, then_ret, blk_normal, V.copy, v_len_d, v_rows_d, v_add, v_lss, v_geq, v_pick_jf, iaK_some, v_ia_nat, v_pack1, v_load_row, Option.bind_some, Option.map_some, List.getElem?_map, List.length_map, List.drop_zero, List.take_succ_cons, List.take_zero, List.length_cons, List.length_nil, Nat.zero_add, Nat.reduceLeDiff, eq_self, Bool.not_true, reduceIte, List.contains_cons, List.contains_nil, List.map_cons, List.map_nil, Nat.reduceBEq, Nat.reduceLT, Nat.reduceEqDiff, Bool.or_false, Bool.or_true, Bool.false_eq_true, bq_true, w1, i0, decide_eq_true (show (((2 + 2 * j : Nat) : Int) < (l.length : Int)) by omega), ha, decide_eq_false q1, w2]
        exact ⟨hlt, Nxt.same (by simp) hb rfl ⟨rfl, rfl, by rw [hrec, hst, decide_eq_false q1, Bool.false_and, Bool.false_or]⟩⟩
    · simp -dsimp -implicitDefEqProofs only [ev_t, ev_k, get_cons, get_nil, put_cons, put_nil, putd_some, keepOnly_nil, keepOnly_cons, optT_some, boolT_bool, iteT_false, t_mv, c_mv, t_bin, c_ia, t_len, t_nil, w_ops, w_draw, w_seq, w_cond, w_block, w_exit, w_ret, then_normal, then_ret, then_exit, blk_exit, V.copy, v_len_d, v_add, v_lss, List.length_map, eq_self, reduceIte, List.contains_cons, List.contains_nil, Nat.reduceBEq, Nat.reduceLT, Nat.reduceEqDiff, Bool.or_false, Bool.or_true, Bool.false_eq_true, w1, decide_eq_false (show ¬ (((2 + 2 * j : Nat) : Int) < (l.length : Int)) by omega)]
      exact fin_ret hb rfl rfl List.take_length ⟨by rw [hspec, hrec, List.drop_of_length_le (by omega)]; rfl, rfl⟩
  have har : (l.length : Int) = arity op := by
    simp only [operB, if_neg h23, decide_eq_true_eq] at hop; exact hop
  have hl : (l.length = 1 ∧ (op = 4 ∨ op = 5 ∨ op = 6 ∨ op = 25)) ∨ (l.length = 2 ∧ 7 ≤ op ∧ op ≤ 21) := by
    have : op = 4 ∨ op = 5 ∨ op = 6 ∨ op = 25 ∨ (7 ≤ op ∧ op ≤ 21) := by omega
    rcases this with rfl | rfl | rfl | rfl | h
    · exact .inl ⟨by have : arity 4 = 1 := by decide
                     omega, by simp⟩
    · exact .inl ⟨by have : arity 5 = 1 := by decide
                     omega, by simp⟩
    · exact .inl ⟨by have : arity 6 = 1 := by decide
                     omega, by simp⟩
    · exact .inl ⟨by have : arity 25 = 1 := by decide
                     omega, by simp⟩
    · refine .inr ⟨?_, h⟩
      have hc : op = 7 ∨ op = 8 ∨ op = 9 ∨ op = 10 ∨ op = 11 ∨ op = 12 ∨ op = 13 ∨ op = 14 ∨ op = 15 ∨ op = 16 ∨ op = 17 ∨ op = 18 ∨ op = 19 ∨ op = 20 ∨ op = 21 := by omega
      have : arity op = 2 := by
        rcases hc with rfl | rfl | rfl | rfl | rfl | rfl | rfl | rfl | rfl | rfl | rfl | rfl | rfl | rfl | rfl <;> decide
      omega
  have hz1 : decide (((1 : Nat) : Int) = 1) = true := rfl
  have hz2 : decide (((2 : Nat) : Int) = 1) = false := rfl
  have e0 : ∀ (a : Int) (rest : List (List D)), iaV 1 (V.d (D.sl ([dint a] :: rest))) (V.d (D.lit (Value.int IntKind.i64 0))) = some (.row [dint a] 0) := fun _ _ => rfl
  rcases hl with ⟨hl, hops⟩ | ⟨hl, h7, h21⟩
  · match l, hl with
    | [a], _ =>
    obtain ⟨x, rfl, hx⟩ := wd_nat (hw' a (by simp))
    simp -dsimp -implicitDefEqProofs only [ev_t, ev_k, get_cons, get_nil, put_cons, put_nil, putd_some, keepOnly_nil, keepOnly_cons, optT_some, boolT_bool, iteT_true, iteT_false, t_mv, c_mv, t_bin, t_ia, c_ia, t_len, t_load, t_call, t_nil, w_skip, w_ops, w_draw, w_seq, w_cond, then_normal, slots0, V.copy, V.lend, v_len_d, v_eql, v_pack1, v_load_row, Option.bind_some, List.drop_zero, List.take_succ_cons, List.take_zero, List.length_cons, List.length_nil, Nat.zero_add, Nat.reduceLeDiff, eq_self, reduceIte, reduceCtorEq, List.contains_cons, List.contains_nil, List.map_cons, List.map_nil, Nat.reduceBEq, Nat.reduceLT, Nat.reduceEqDiff, Bool.or_false, Bool.or_true, Bool.false_eq_true, decide_eq_false h22, decide_eq_false h23, hz1, e0]
    refine fun_ret (unary_fun op x hx _) ?_
    simp -dsimp -implicitDefEqProofs only [ev_t, ev_k, get_cons, get_nil, put_cons, put_nil, putd_some, keepOnly_nil, keepOnly_cons, t_mv, c_mv, c_ia, t_nil, w_draw, w_seq, w_ret, then_normal, then_ret, V.copy, eq_self, reduceIte, reduceCtorEq, List.contains_cons, List.contains_nil, Nat.reduceBEq, Nat.reduceLT, Nat.reduceEqDiff, Bool.or_false, Bool.false_eq_true]
    exact fin_ret hb rfl rfl List.take_length ⟨by unfold operS; rw [if_neg h22, if_neg h23]; rfl, rfl⟩
  · match l, hl with
    | [a, b], _ =>
    obtain ⟨x, rfl, hx⟩ := wd_nat (hw' a (by simp))
    obtain ⟨y, rfl, hy⟩ := wd_nat (hw' b (by simp))
    have e1 : iaV 1 (V.d (D.sl [[dint x], [dint y]])) (V.d (D.lit (Value.int IntKind.i64 1))) = some (.row [dint y] 0) := rfl
    simp -dsimp -implicitDefEqProofs only [ev_t, ev_k, get_cons, get_nil, put_cons, put_nil, putd_some, keepOnly_nil, keepOnly_cons, optT_some, boolT_bool, iteT_false, t_mv, c_mv, t_bin, c_ia, t_len, c_load, t_nil, c_call, w_skip, w_ops, w_draw, w_seq, w_cond, then_normal, slots0, V.copy, V.lend, v_len_d, v_eql, v_pack1, v_load_row, Option.bind_some, List.drop_zero, List.take_succ_cons, List.take_zero, List.length_cons, List.length_nil, Nat.zero_add, Nat.reduceLeDiff, eq_self, reduceIte, reduceCtorEq, List.contains_cons, List.contains_nil, List.map_cons, List.map_nil, Nat.reduceBEq, Nat.reduceLT, Nat.reduceEqDiff, Bool.or_false, Bool.or_true, Bool.false_eq_true, Nat.reduceAdd, decide_eq_false h22, decide_eq_false h23, hz2, e0, e1]
    refine calm_ret (binary_fun op h21 h7 x y hx hy _) ?_
    simp -dsimp -implicitDefEqProofs only [ev_t, get_cons, get_nil, put_cons, put_nil, putd_some, keepOnly_nil, keepOnly_cons, c_mv, c_nil, w_ret, then_normal, V.copy, eq_self, reduceIte, reduceCtorEq, List.contains_cons, List.contains_nil, Nat.reduceBEq, Nat.reduceLT, Nat.reduceEqDiff, Bool.or_false, Bool.false_eq_true]
    exact fin_ret hb rfl rfl List.take_length ⟨by unfold operS; rw [if_neg h22, if_neg h23]; rfl, rfl⟩
end Go.Proofs.YtibfoafepjggjaaGreatDoor
