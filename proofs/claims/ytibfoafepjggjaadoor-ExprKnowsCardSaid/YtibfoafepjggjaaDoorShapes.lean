/-
  The law ExprShapes: its walk.
-/
import Derived.Test.YtibfoafepjggjaaDoorNew8
import Derived.Test.YtibfoafepjggjaaDoorK
namespace Go.Proofs.YtibfoafepjggjaaDoor
open Go.RowKit

theorem few_of {e : Ex} {n : Nat} (hn : n ≤ 450) (h : cnt e n ≤ n) : esize e ≤ 450 ∧ edepth e ≤ 450 := by
  have h1 := few_size (by omega) h
  have h2 := depth_le e
  omega
theorem texts_fun (l : List ByteArray) (σ : List (List V)) : Fun G 17 [.d (dstrs l), .d (dstrs l)] σ (RetV (vbool true) σ) := by
  refine fun_code Tryd.func17 k17 rfl fun hb hw => ?_
  have hm := wf_len (hw 0 (by simp))
  rw [List.length_map] at hm
  unfold c17
  simp -dsimp -implicitDefEqProofs only [ev_t, ev_k, get_cons, get_nil, put_cons, put_nil, putd_some, keepOnly_nil, keepOnly_cons, optT_some, boolT_bool, t_mv, t_bin, t_len, t_nil, w_ops, w_seq, w_cond, w_block, w_ret, then_normal, slots0, V.copy, v_len_d, v_neq, List.length_map, Nat.zero_add, eq_self, reduceIte, reduceCtorEq, List.contains_cons, List.contains_nil, Nat.reduceBEq, Nat.reduceLT, Nat.reduceEqDiff, Bool.or_false, Bool.or_true, Bool.false_eq_true, dstrs]
  refine iteT_intro (fun hne => ?_) (fun hlen => ?_)
  · simp at hne
  · simp -dsimp -implicitDefEqProofs only [ev_k, put_cons, put_nil, putd_some, keepOnly_nil, keepOnly_cons, t_mv, t_nil, w_skip, w_ops, w_seq, w_block, w_ret, then_normal, V.copy, eq_self, reduceIte, reduceCtorEq, List.contains_cons, List.contains_nil, Nat.reduceBEq, Nat.reduceLT, Nat.reduceEqDiff, Bool.or_false, Bool.or_true, Bool.false_eq_true]
    refine awp_for (R := fun (j : Nat) ρ σ' => ρ = [(0, .d (dstrs l)), (1, .d (dstrs l)), (5, vint .i64 j)] ∧ σ' = σ) l.length ⟨rfl, rfl⟩ ?_ _
    rintro j ρ' σ' hj ⟨rfl, rfl⟩
    by_cases hlt : j < l.length
    · simp -dsimp -implicitDefEqProofs only [ev_t, ev_k, get_cons, get_nil, put_cons, put_nil, putd_some, keepOnly_nil, keepOnly_cons, optT_some, boolT_bool, iteT_true, iteT_false, t_mv, c_mv, t_bin, c_bin, c_ia, t_len, c_load, t_nil, c_nil, w_skip, w_ops, w_draw, w_seq, w_cond, w_block, w_ret, then_normal, blk_normal, V.copy, v_len_d, v_rows_d, v_add, v_lss, v_sneq, iaK_some, v_ia_nat, v_pack1, v_load_row, Option.bind_some, Option.map_some, List.getElem?_map, List.length_map, List.drop_zero, List.take_succ_cons, List.take_zero, List.length_cons, List.length_nil, Nat.zero_add, Nat.reduceLeDiff, true_and, eq_self, Bool.not_true, reduceIte, reduceCtorEq, List.contains_cons, List.contains_nil, List.map_cons, List.map_nil, Nat.reduceBEq, Nat.reduceLT, Nat.reduceEqDiff, Bool.or_false, Bool.or_true, Bool.false_eq_true, dstrs, Int.ofNat_lt, hlt, decide_true, List.getElem?_eq_getElem hlt, wrap_nat hlt hm]
      refine Nxt.same (Nat.le_refl _) hb ?_ ?_
      · rfl
      · exact ⟨rfl, rfl⟩
    · simp -dsimp -implicitDefEqProofs only [ev_t, ev_k, get_cons, get_nil, put_cons, put_nil, putd_some, keepOnly_nil, keepOnly_cons, optT_some, boolT_bool, iteT_false, t_mv, c_mv, t_bin, c_ia, t_len, t_nil, w_ops, w_draw, w_seq, w_cond, w_block, w_exit, w_ret, then_normal, then_exit, blk_exit, V.copy, v_len_d, v_lss, List.length_map, eq_self, reduceIte, reduceCtorEq, List.contains_cons, List.contains_nil, Nat.reduceBEq, Nat.reduceLT, Nat.reduceEqDiff, Bool.or_false, Bool.or_true, Bool.false_eq_true, dstrs, Int.ofNat_lt, hlt, decide_false]
      exact fin_ret hb rfl rfl List.take_length ⟨rfl, rfl⟩
theorem exprShapes_fun (e : Ex) (op : Int) : Fun G 3 [vex e, .d (dint op)] [] (RetV (.d (.lit (.bool true))) []) := by
  have hF := fun σ => fun_few e 450 (by omega) (by omega) σ
  have hA := fun σ => fun_awake σ
  refine fun_code Tryd.func3 k3 (by simp only [vex_eq]; rfl) fun hb hw => ?_
  have out : ∀ (σ' l : List (List V)), σ' = [] ++ l → fin ([] : List (List V)).length rs3 (RetV (.d (.lit (.bool true))) []) .ret [(4, .d (.lit (.bool true)))] σ' := fun σ' l e => by
    subst e; exact fin_ret hb rfl rfl List.take_left ⟨rfl, rfl⟩
  unfold c3
  simp -dsimp -implicitDefEqProofs only [ev_t, ev_k, get_cons, get_nil, put_cons, put_nil, putd_some, keepOnly_nil, keepOnly_cons, optT_some, onT_true, t_mv, t_load, t_call, t_box, t_nil, w_ops, w_seq, then_normal, slots0, V.copy, V.lend, V.lend1, V.cells, V.boxable, v_packA, ldK_some, v_load_ptr, List.nil_append, List.drop_zero, List.take_succ_cons, List.take_zero, List.length_cons, List.length_nil, List.getElem?_cons_zero, Nat.zero_add, Nat.reduceLeDiff, eq_self, reduceIte, reduceCtorEq, List.contains_cons, List.contains_nil, List.map_cons, List.map_nil, Nat.reduceBEq, Nat.reduceLT, Nat.reduceEqDiff, Bool.or_false, Bool.or_true, Bool.false_eq_true, Nat.reduceAdd, vex_eq]
  refine fun_ret (by simpa only [vex_eq] using hF _) ?_
  simp -dsimp -implicitDefEqProofs only [ev_t, get_cons, get_nil, put_cons, put_nil, putd_some, keepOnly_nil, keepOnly_cons, optT_some, boolT_bool, c_mv, t_un, t_nil, c_call, w_draw, w_seq, w_cond, then_normal, V.copy, V.lend, v_not, List.length_nil, eq_self, reduceIte, List.contains_cons, List.contains_nil, List.map_cons, List.map_nil, Nat.reduceBEq, Nat.reduceLT, Nat.reduceEqDiff, Bool.or_false, Bool.or_true, Bool.false_eq_true]
  refine iteT_intro (fun h1 => ?_) (fun h1 => ?_)
  · simp -dsimp -implicitDefEqProofs only [t_call, w_ops, w_seq, V.lend, List.map_nil]
    refine fun_ret (hA _) ?_
    simp -dsimp -implicitDefEqProofs only [ev_t, get_cons, get_nil, put_cons, put_nil, putd_some, keepOnly_nil, keepOnly_cons, t_mv, c_mv, t_nil, c_call, w_draw, w_seq, w_ret, then_normal, then_ret, V.copy, V.lend, List.length_nil, eq_self, reduceIte, List.contains_cons, List.contains_nil, List.map_cons, List.map_nil, Nat.reduceBEq, Nat.reduceLT, Nat.reduceEqDiff, Bool.or_false, Bool.false_eq_true]
    exact out _ _ rfl
  · obtain ⟨hs, hd⟩ := few_of (n := 450) (e := e) (by omega) (by simpa using h1)
    simp -dsimp -implicitDefEqProofs only [ev_t, get_cons, get_nil, put_cons, put_nil, putd_some, c_mv, c_call, w_skip, w_draw, w_seq, then_normal, V.copy, V.lend, List.length_nil, eq_self, reduceIte, List.map_cons, List.map_nil, Nat.reduceLT, Nat.reduceEqDiff]
    refine calm_ret (by simpa only [vex_eq] using fun_arity op _) ?_
    simp -dsimp -implicitDefEqProofs only [ev_t, get_cons, get_nil, put_cons, put_nil, putd_some, c_mv, c_call, V.copy, V.lend, eq_self, reduceIte, List.map_cons, List.map_nil, Nat.reduceLT, Nat.reduceEqDiff]
    refine calm_ret (by simpa only [vex_eq] using fun_rarity op _) ?_
    simp -dsimp -implicitDefEqProofs only [ev_t, get_cons, get_nil, put_cons, put_nil, putd_some, optT_some, boolT_bool, iteT_true, c_mv, c_bin, c_fa, c_load, c_call, c_guard, V.copy, V.lend, v_eql, v_fa_ptr, v_pack1, ldK_some, v_load_ptr, List.drop_zero, List.take_succ_cons, List.take_zero, List.length_cons, List.length_nil, List.getElem?_cons_zero, Nat.zero_add, Nat.reduceLeDiff, eq_self, reduceIte, List.map_cons, List.map_nil, Nat.reduceLT, Nat.reduceEqDiff, bq_true, Nat.reduceAdd, decide_true]
    refine calm_ret (by simpa only [vex_eq] using fun_arity e.op _) ?_
    simp -dsimp -implicitDefEqProofs only [ev_t, get_cons, get_nil, put_cons, put_nil, putd_some, optT_some, boolT_bool, iteT_true, c_fa, c_load, c_call, c_guard, V.copy, V.lend, v_fa_ptr, v_pack1, ldK_some, v_load_ptr, List.drop_zero, List.take_succ_cons, List.take_zero, List.length_cons, List.length_nil, List.getElem?_cons_zero, Nat.zero_add, Nat.reduceLeDiff, eq_self, reduceIte, List.map_cons, List.map_nil, Nat.reduceLT, Nat.reduceEqDiff, bq_true, Nat.reduceAdd]
    refine calm_ret (by simpa only [vex_eq] using fun_rarity e.op _) ?_
    simp -dsimp -implicitDefEqProofs only [ev_t, ev_k, get_cons, get_nil, put_cons, put_nil, putd_some, optT_some, boolT_bool, iteT_true, c_mv, c_pick, c_bin, c_load, c_call, c_guard, V.copy, V.lend, V.lend1, v_eql, v_pick, v_packA, ldK_some, v_load_ptr, List.drop_zero, List.take_succ_cons, List.take_zero, List.length_cons, List.length_nil, List.getElem?_cons_zero, Nat.zero_add, Nat.reduceLeDiff, cond_true, eq_self, reduceIte, List.map_cons, List.map_nil, Nat.reduceLT, Nat.reduceEqDiff, bq_true, Nat.reduceAdd, decide_true]
    refine calm_ret (by simpa only [vex_eq] using fun_size e (by omega) _) ?_
    simp -dsimp -implicitDefEqProofs only [ev_t, get_cons, get_nil, put_cons, put_nil, putd_some, optT_some, boolT_bool, iteT_true, c_load, c_call, c_guard, V.copy, V.lend, V.lend1, v_packA, ldK_some, v_load_ptr, List.drop_zero, List.take_succ_cons, List.take_zero, List.length_cons, List.length_nil, List.getElem?_cons_zero, Nat.zero_add, Nat.reduceLeDiff, eq_self, reduceIte, List.map_cons, List.map_nil, Nat.reduceLT, Nat.reduceEqDiff, bq_true, Nat.reduceAdd]
    refine calm_ret (by simpa only [vex_eq] using fun_rsize e (by omega) (by omega) _) ?_
    simp -dsimp -implicitDefEqProofs only [ev_t, ev_k, get_cons, get_nil, put_cons, put_nil, putd_some, optT_some, boolT_bool, iteT_true, c_mv, c_pick, c_bin, c_load, c_call, c_guard, V.copy, V.lend, V.lend1, v_eql, v_pick, v_packA, ldK_some, v_load_ptr, List.drop_zero, List.take_succ_cons, List.take_zero, List.length_cons, List.length_nil, List.getElem?_cons_zero, Nat.zero_add, Nat.reduceLeDiff, cond_true, eq_self, reduceIte, List.map_cons, List.map_nil, Nat.reduceLT, Nat.reduceEqDiff, bq_true, Nat.reduceAdd, decide_true]
    refine calm_ret (by simpa only [vex_eq] using fun_depth e (by omega) _) ?_
    simp -dsimp -implicitDefEqProofs only [ev_t, get_cons, get_nil, put_cons, put_nil, putd_some, optT_some, boolT_bool, iteT_true, c_load, c_call, c_guard, V.copy, V.lend, V.lend1, v_packA, ldK_some, v_load_ptr, List.drop_zero, List.take_succ_cons, List.take_zero, List.length_cons, List.length_nil, List.getElem?_cons_zero, Nat.zero_add, Nat.reduceLeDiff, eq_self, reduceIte, List.map_cons, List.map_nil, Nat.reduceLT, Nat.reduceEqDiff, bq_true, Nat.reduceAdd]
    refine calm_ret (by simpa only [vex_eq] using fun_rdepth e (by omega) (by omega) _) ?_
    simp -dsimp -implicitDefEqProofs only [ev_t, ev_k, get_cons, get_nil, put_cons, put_nil, putd_some, optT_some, boolT_bool, iteT_true, c_mv, c_pick, c_bin, c_load, c_call, c_guard, V.copy, V.lend, V.lend1, v_eql, v_pick, v_packA, ldK_some, v_load_ptr, List.drop_zero, List.take_succ_cons, List.take_zero, List.length_cons, List.length_nil, List.getElem?_cons_zero, Nat.zero_add, Nat.reduceLeDiff, cond_true, eq_self, reduceIte, List.map_cons, List.map_nil, Nat.reduceLT, Nat.reduceEqDiff, bq_true, Nat.reduceAdd, decide_true]
    refine calm_ret (by simpa only [vex_eq] using fun_names e (by omega) _) ?_
    simp -dsimp -implicitDefEqProofs only [ev_t, get_cons, get_nil, put_cons, put_nil, putd_some, optT_some, boolT_bool, iteT_true, c_load, c_call, c_guard, V.copy, V.lend, V.lend1, v_packA, ldK_some, v_load_ptr, List.drop_zero, List.take_succ_cons, List.take_zero, List.length_cons, List.length_nil, List.getElem?_cons_zero, Nat.zero_add, Nat.reduceLeDiff, eq_self, reduceIte, List.map_cons, List.map_nil, Nat.reduceLT, Nat.reduceEqDiff, bq_true, Nat.reduceAdd]
    refine calm_ret (by simpa only [vex_eq] using fun_rnames e (by omega) (by omega) _) ?_
    simp -dsimp -implicitDefEqProofs only [ev_t, get_cons, get_nil, put_cons, put_nil, putd_some, boolT_bool, iteT_true, c_call, c_guard, V.lend, eq_self, reduceIte, List.map_cons, List.map_nil, Nat.reduceLT, Nat.reduceEqDiff, bq_true]
    refine calm_ret (by simpa only [vex_eq] using texts_fun _ _) ?_
    simp -dsimp -implicitDefEqProofs only [ev_t, ev_k, get_cons, get_nil, put_cons, put_nil, putd_some, optT_some, boolT_bool, iteT_true, c_mv, c_pick, c_load, c_call, c_guard, V.copy, V.lend, V.lend1, v_pick, v_packA, ldK_some, v_load_ptr, List.drop_zero, List.take_succ_cons, List.take_zero, List.length_cons, List.length_nil, List.getElem?_cons_zero, Nat.zero_add, Nat.reduceLeDiff, cond_true, eq_self, reduceIte, List.map_cons, List.map_nil, Nat.reduceLT, Nat.reduceEqDiff, bq_true, Nat.reduceAdd]
    refine calm_ret (by simpa only [vex_eq] using fun_arrays e (by omega) _) ?_
    simp -dsimp -implicitDefEqProofs only [ev_t, get_cons, get_nil, put_cons, put_nil, putd_some, optT_some, boolT_bool, iteT_true, c_load, c_call, c_guard, V.copy, V.lend, V.lend1, v_packA, ldK_some, v_load_ptr, List.drop_zero, List.take_succ_cons, List.take_zero, List.length_cons, List.length_nil, List.getElem?_cons_zero, Nat.zero_add, Nat.reduceLeDiff, eq_self, reduceIte, List.map_cons, List.map_nil, Nat.reduceLT, Nat.reduceEqDiff, bq_true, Nat.reduceAdd]
    refine calm_ret (by simpa only [vex_eq] using fun_rarrays e (by omega) (by omega) _) ?_
    simp -dsimp -implicitDefEqProofs only [ev_t, get_cons, get_nil, put_cons, put_nil, putd_some, boolT_bool, iteT_true, c_call, c_guard, V.lend, eq_self, reduceIte, List.map_cons, List.map_nil, Nat.reduceLT, Nat.reduceEqDiff, bq_true]
    refine calm_ret (by simpa only [vex_eq] using texts_fun _ _) ?_
    simp -dsimp -implicitDefEqProofs only [ev_t, ev_k, get_cons, get_nil, put_cons, put_nil, putd_some, optT_some, boolT_bool, iteT_true, c_mv, c_pick, c_call, c_guard, V.copy, V.lend, v_pick, cond_true, eq_self, reduceIte, List.map_nil, Nat.reduceLT, Nat.reduceEqDiff, bq_true]
    refine calm_ret (hA _) ?_
    simp -dsimp -implicitDefEqProofs only [ev_t, ev_k, get_cons, get_nil, put_cons, put_nil, putd_some, keepOnly_nil, keepOnly_cons, optT_some, c_mv, c_pick, c_nil, w_ret, then_normal, V.copy, v_pick, List.length_nil, cond_true, eq_self, reduceIte, List.contains_cons, List.contains_nil, Nat.reduceBEq, Nat.reduceLT, Nat.reduceEqDiff, Bool.or_false, Bool.false_eq_true]
    exact out _ _ rfl
end Go.Proofs.YtibfoafepjggjaaDoor
