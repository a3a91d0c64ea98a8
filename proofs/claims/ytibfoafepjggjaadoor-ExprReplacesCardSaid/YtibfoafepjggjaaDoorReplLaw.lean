/-
  The law ExprReplaces: its walk.
-/
import Derived.Test.YtibfoafepjggjaaDoorBrief
import Derived.Test.YtibfoafepjggjaaDoorReplE
namespace Go.Proofs.YtibfoafepjggjaaDoor
open Go.RowKit

theorem exprReplaces_fun (e b : Ex) (env : List Sig) (hl : env.length ≤ 9223372036854775807) : Fun G 6 [vex e, vex b, .d (dsigs env)] [] (RetV (.d (.lit (.bool true))) []) := by
  have hF := fun σ => fun_few e 60 (by omega) (by omega) σ
  have hF' := fun σ => fun_few b 20 (by omega) (by omega) σ
  have hA' := fun σ => fun_awake σ
  refine fun_code Tryd.func6 k6 (by simp only [vex_eq]; rfl) fun hb hw => ?_
  have out : ∀ (σ' l : List (List V)), σ' = [] ++ l → fin ([] : List (List V)).length rs6 (RetV (.d (.lit (.bool true))) []) .ret [(6, .d (.lit (.bool true)))] σ' := fun σ' l e => by
    subst e; exact fin_ret hb rfl rfl List.take_left ⟨rfl, rfl⟩
  unfold c6
  simp -dsimp -implicitDefEqProofs only [ev_t, ev_k, get_cons, get_nil, put_cons, put_nil, putd_some, keepOnly_nil, keepOnly_cons, optT_some, onT_true, t_mv, t_load, t_call, t_box, t_nil, w_ops, w_seq, then_normal, slots0, V.copy, V.lend, V.lend1, V.cells, V.boxable, v_packA, ldK_some, v_load_ptr, List.cons_append, List.nil_append, List.drop_zero, List.take_succ_cons, List.take_zero, List.length_cons, List.length_nil, List.getElem?_cons_zero, Nat.zero_add, Nat.reduceLeDiff, eq_self, reduceIte, reduceCtorEq, List.contains_cons, List.contains_nil, List.map_cons, List.map_nil, Nat.reduceBEq, Nat.reduceLT, Nat.reduceEqDiff, Bool.or_false, Bool.or_true, Bool.false_eq_true, Nat.reduceAdd, vex_eq]
  refine fun_ret (by simpa only [vex_eq] using hF _) ?_
  simp -dsimp -implicitDefEqProofs only [ev_t, get_cons, get_nil, put_cons, put_nil, putd_some, optT_some, boolT_bool, t_mv, t_un, t_guard, V.copy, v_not, eq_self, reduceIte, Nat.reduceLT, Nat.reduceEqDiff, bq_false, Bool.not_not]
  by_cases h1 : cnt e 60 ≤ 60
  case neg =>
    simp -dsimp -implicitDefEqProofs only [ev_t, ev_k, get_cons, get_nil, put_cons, put_nil, putd_some, keepOnly_nil, keepOnly_cons, optT_some, boolT_bool, iteT_true, iteT_false, t_mv, t_pick, t_load, t_call, t_guard, t_nil, w_ops, w_seq, w_cond, then_normal, V.copy, V.lend, v_pick_tj, List.length_nil, eq_self, Bool.not_true, Bool.not_false, reduceIte, List.contains_cons, List.contains_nil, List.map_nil, Nat.reduceBEq, Nat.reduceLT, Nat.reduceEqDiff, Bool.or_false, Bool.or_true, Bool.false_eq_true, bq_false, decide_eq_false h1]
    refine fun_ret (hA' _) ?_
    simp -dsimp -implicitDefEqProofs only [ev_t, get_cons, get_nil, put_cons, put_nil, putd_some, keepOnly_nil, keepOnly_cons, t_mv, t_load, t_nil, w_ops, w_seq, w_ret, then_normal, then_ret, V.copy, List.length_nil, eq_self, reduceIte, List.contains_cons, List.contains_nil, Nat.reduceBEq, Nat.reduceLT, Nat.reduceEqDiff, Bool.or_false, Bool.false_eq_true]
    exact out _ _ rfl
  obtain ⟨hs, hd⟩ := few_of (n := 60) (e := e) (by omega) h1
  simp -dsimp -implicitDefEqProofs only [ev_t, ev_k, get_cons, get_nil, put_cons, put_nil, putd_some, optT_some, boolT_bool, iteT_true, t_load, t_call, t_guard, V.copy, V.lend, V.lend1, v_packA, ldK_some, v_load_ptr, List.drop_zero, List.take_succ_cons, List.take_zero, List.length_cons, List.length_nil, List.getElem?_cons_zero, List.getElem?_cons_succ, Nat.zero_add, Nat.reduceLeDiff, eq_self, Bool.not_true, Bool.not_false, reduceIte, List.map_cons, List.map_nil, Nat.reduceLT, Nat.reduceEqDiff, bq_false, Nat.reduceAdd, decide_eq_true h1]
  refine fun_ret (by simpa only [vex_eq] using hF' _) ?_
  by_cases h2 : cnt b 20 ≤ 20
  case neg =>
    simp -dsimp -implicitDefEqProofs only [ev_t, ev_k, get_cons, get_nil, put_cons, put_nil, putd_some, keepOnly_nil, keepOnly_cons, optT_some, boolT_bool, iteT_true, iteT_false, t_mv, t_pick, t_un, t_load, t_call, t_guard, t_nil, w_ops, w_seq, w_cond, then_normal, V.copy, V.lend, v_not, v_pick, v_pick_tj, List.length_nil, cond_false, eq_self, Bool.not_true, Bool.not_false, reduceIte, List.contains_cons, List.contains_nil, List.map_nil, Nat.reduceBEq, Nat.reduceLT, Nat.reduceEqDiff, Bool.or_false, Bool.or_true, Bool.false_eq_true, bq_false, decide_eq_false h2]
    refine fun_ret (hA' _) ?_
    simp -dsimp -implicitDefEqProofs only [ev_t, get_cons, get_nil, put_cons, put_nil, putd_some, keepOnly_nil, keepOnly_cons, t_mv, t_load, t_nil, w_ops, w_seq, w_ret, then_normal, then_ret, V.copy, List.length_nil, eq_self, reduceIte, List.contains_cons, List.contains_nil, Nat.reduceBEq, Nat.reduceLT, Nat.reduceEqDiff, Bool.or_false, Bool.false_eq_true]
    exact out _ _ rfl
  obtain ⟨hs', hd'⟩ := few_of (n := 20) (e := b) (by omega) h2
  simp -dsimp -implicitDefEqProofs only [ev_t, ev_k, get_cons, get_nil, put_cons, put_nil, putd_some, optT_some, boolT_bool, iteT_true, t_mv, t_pick, t_un, t_call, t_guard, V.copy, V.lend, v_not, v_pick, cond_false, eq_self, Bool.not_true, Bool.not_false, reduceIte, List.map_cons, List.map_nil, Nat.reduceLT, Nat.reduceEqDiff, bq_false, decide_eq_true h2]
  refine fun_ret (brief_fun env hl _) ?_
  cases h3 : briefB env with
  | false =>
    simp -dsimp -implicitDefEqProofs only [ev_t, ev_k, get_cons, get_nil, put_cons, put_nil, putd_some, keepOnly_nil, keepOnly_cons, optT_some, boolT_bool, iteT_true, t_pick, t_un, t_load, t_call, t_guard, t_nil, w_ops, w_seq, w_cond, then_normal, V.lend, v_not, v_pick, List.length_nil, cond_false, eq_self, Bool.not_false, reduceIte, List.contains_cons, List.contains_nil, List.map_nil, Nat.reduceBEq, Nat.reduceLT, Nat.reduceEqDiff, Bool.or_false, Bool.or_true, Bool.false_eq_true, bq_false]
    refine fun_ret (hA' _) ?_
    simp -dsimp -implicitDefEqProofs only [ev_t, get_cons, get_nil, put_cons, put_nil, putd_some, keepOnly_nil, keepOnly_cons, t_mv, t_load, t_nil, w_ops, w_seq, w_ret, then_normal, then_ret, V.copy, List.length_nil, eq_self, reduceIte, List.contains_cons, List.contains_nil, Nat.reduceBEq, Nat.reduceLT, Nat.reduceEqDiff, Bool.or_false, Bool.false_eq_true]
    exact out _ _ rfl
  | true =>
    have hel := brief_len h3
    simp -dsimp -implicitDefEqProofs only [ev_t, ev_k, get_cons, get_nil, put_cons, put_nil, putd_some, keepOnly_nil, keepOnly_cons, optT_some, boolT_bool, iteT_true, iteT_false, t_pick, t_un, t_load, t_call, t_guard, t_nil, w_skip, w_ops, w_seq, w_cond, then_normal, V.copy, V.lend, V.lend1, v_not, v_pick, v_packA, ldK_some, v_load_ptr, List.drop_zero, List.take_succ_cons, List.take_zero, List.length_cons, List.length_nil, List.getElem?_cons_zero, Nat.zero_add, Nat.reduceLeDiff, cond_false, eq_self, Bool.not_true, Bool.not_false, reduceIte, List.contains_cons, List.contains_nil, List.map_cons, List.map_nil, Nat.reduceBEq, Nat.reduceLT, Nat.reduceEqDiff, Bool.or_false, Bool.or_true, Bool.false_eq_true, bq_false, Nat.reduceAdd]
    refine fun_ret (by simpa only [vex_eq] using fun_rnames e (by omega) (by omega) _) ?_
    simp -dsimp -implicitDefEqProofs only [ev_t, get_cons, get_nil, put_cons, put_nil, putd_some, keepOnly_nil, keepOnly_cons, optT_some, t_mv, t_load, t_call, t_nil, w_ops, w_seq, then_normal, V.copy, V.lend, V.lend1, v_packA, ldK_some, v_load_ptr, List.drop_zero, List.take_succ_cons, List.take_zero, List.length_cons, List.length_nil, List.getElem?_cons_zero, List.getElem?_cons_succ, Nat.zero_add, Nat.reduceLeDiff, eq_self, reduceIte, List.contains_cons, List.contains_nil, List.map_cons, List.map_nil, Nat.reduceBEq, Nat.reduceLT, Nat.reduceEqDiff, Bool.or_false, Bool.or_true, Bool.false_eq_true, Nat.reduceAdd]
    refine fun_ret (by simpa only [vex_eq] using fun_eval b env (by omega) (by omega) _) ?_
    obtain ⟨⟨x, f⟩, hxf⟩ : ∃ p, p = evalE b env := ⟨_, rfl⟩
    rw [← hxf]
    simp -dsimp -implicitDefEqProofs only [ev_t, get_cons, get_nil, put_cons, put_nil, putd_some, keepOnly_nil, keepOnly_cons, optT_some, t_mv, t_len, t_ext, t_nil, w_ops, w_seq, then_normal, V.copy, v_ext, Option.map_some, List.length_nil, List.getElem?_cons_zero, List.getElem?_cons_succ, eq_self, reduceIte, List.contains_cons, List.contains_nil, Nat.reduceBEq, Nat.reduceLT, Nat.reduceEqDiff, Bool.or_false, Bool.or_true, Bool.false_eq_true]
    cases hN : namesOf [2] e with
    | nil =>
      simp -dsimp -implicitDefEqProofs only [w_drawn, b_load, ev_t, ev_k, get_cons, get_nil, put_cons, put_nil, putd_some, keepOnly_nil, keepOnly_cons, optT_some, boolT_bool, iteT_true, iteT_false, t_mv, t_pick, t_bin, t_call, t_guard, t_nil, w_ops, w_seq, w_cond, then_normal, V.copy, V.lend, v_len_d, v_eql, v_pick_tj, List.length_nil, eq_self, Bool.not_true, Bool.not_false, reduceIte, List.contains_cons, List.contains_nil, List.map_nil, Nat.reduceBEq, Nat.reduceLT, Nat.reduceEqDiff, Bool.or_false, Bool.or_true, Bool.false_eq_true, bq_false, dstrs, show decide (((0 : Nat) : Int) = 0) = true from rfl]
      refine fun_ret (hA' _) ?_
      simp -dsimp -implicitDefEqProofs only [w_drawn, b_load, ev_t, get_cons, get_nil, put_cons, put_nil, putd_some, keepOnly_nil, keepOnly_cons, t_mv, t_nil, w_seq, w_ret, then_normal, then_ret, V.copy, List.length_nil, eq_self, reduceIte, List.contains_cons, List.contains_nil, Nat.reduceBEq, Nat.reduceLT, Nat.reduceEqDiff, Bool.or_false, Bool.false_eq_true]
      exact out _ _ rfl
    | cons nm r =>
      have hia : iaV 1 (V.d (D.sl ([dstr nm] :: r.map fun s => [dstr s]))) (V.d (D.lit (Value.int IntKind.i64 0))) = some (.row [dstr nm] 0) := rfl
      simp -dsimp -implicitDefEqProofs only [ev_t, ev_k, get_cons, get_nil, put_cons, put_nil, putd_some, optT_some, boolT_bool, iteT_true, t_mv, t_bin, t_ia, t_load, t_call, t_guard, V.copy, V.lend, v_len_d, v_eql, v_pack1, v_load_row, Option.bind_some, List.length_map, List.drop_zero, List.take_succ_cons, List.take_zero, List.length_cons, List.length_nil, Nat.zero_add, Nat.reduceLeDiff, eq_self, Bool.not_false, reduceIte, List.map_cons, List.map_nil, Nat.reduceLT, Nat.reduceEqDiff, bq_false, hia, dstrs, decide_eq_false (show ¬ (((r.length + 1 : Nat) : Int) = 0) by omega)]
      refine fun_ret (fun_isname nm _) ?_
      cases hnm : nameB nm with
      | false =>
        simp -dsimp -implicitDefEqProofs only [w_drawn, b_load, ev_t, ev_k, get_cons, get_nil, put_cons, put_nil, putd_some, keepOnly_nil, keepOnly_cons, optT_some, boolT_bool, iteT_true, iteT_false, t_mv, t_pick, t_un, t_call, t_guard, t_nil, w_ops, w_seq, w_cond, then_normal, V.copy, V.lend, v_not, v_pick, v_pick_tj, List.length_nil, cond_false, eq_self, Bool.not_true, Bool.not_false, reduceIte, List.contains_cons, List.contains_nil, List.map_nil, Nat.reduceBEq, Nat.reduceLT, Nat.reduceEqDiff, Bool.or_false, Bool.or_true, Bool.false_eq_true, bq_false]
        refine fun_ret (hA' _) ?_
        simp -dsimp -implicitDefEqProofs only [w_drawn, b_load, ev_t, get_cons, get_nil, put_cons, put_nil, putd_some, keepOnly_nil, keepOnly_cons, t_mv, t_nil, w_seq, w_ret, then_normal, then_ret, V.copy, List.length_nil, eq_self, reduceIte, List.contains_cons, List.contains_nil, Nat.reduceBEq, Nat.reduceLT, Nat.reduceEqDiff, Bool.or_false, Bool.false_eq_true]
        exact out _ _ rfl
      | true =>
        by_cases hf : f = 0
        case neg =>
          simp -dsimp -implicitDefEqProofs only [w_drawn, b_load, ev_t, ev_k, get_cons, get_nil, put_cons, put_nil, putd_some, keepOnly_nil, keepOnly_cons, optT_some, boolT_bool, iteT_true, t_mv, t_pick, t_bin, t_un, t_call, t_guard, t_nil, w_ops, w_seq, w_cond, then_normal, V.copy, V.lend, v_neq, v_not, v_pick, List.length_nil, cond_false, eq_self, Bool.not_true, Bool.not_false, reduceIte, List.contains_cons, List.contains_nil, List.map_nil, Nat.reduceBEq, Nat.reduceLT, Nat.reduceEqDiff, Bool.or_false, Bool.or_true, Bool.false_eq_true, bq_false, decide_eq_false hf]
          refine fun_ret (hA' _) ?_
          simp -dsimp -implicitDefEqProofs only [w_drawn, b_load, ev_t, get_cons, get_nil, put_cons, put_nil, putd_some, keepOnly_nil, keepOnly_cons, t_mv, t_nil, w_seq, w_ret, then_normal, then_ret, V.copy, List.length_nil, eq_self, reduceIte, List.contains_cons, List.contains_nil, Nat.reduceBEq, Nat.reduceLT, Nat.reduceEqDiff, Bool.or_false, Bool.false_eq_true]
          exact out _ _ rfl
        simp -dsimp -implicitDefEqProofs only [w_drawn, b_mv, b_ia, b_load, b_call, ev_t, ev_k, get_cons, get_nil, put_cons, put_nil, putd_some, keepOnly_nil, keepOnly_cons, optT_some, boolT_bool, iteT_true, iteT_false, onT_true, t_mv, t_pick, t_bin, t_un, t_guard, t_nil, w_skip, w_seq, w_cond, then_normal, V.copy, V.lend, V.lend1, v_neq, v_not, v_pick, v_pack1, v_packA, v_load_row, ldK_some, v_load_ptr, Option.bind_some, List.cons_append, List.nil_append, List.drop_zero, List.take_succ_cons, List.take_zero, List.length_cons, List.length_nil, List.getElem?_cons_zero, List.getElem?_cons_succ, Nat.zero_add, Nat.reduceLeDiff, cond_false, eq_self, Bool.not_true, Bool.not_false, reduceIte, List.contains_cons, List.contains_nil, List.map_cons, List.map_nil, Nat.reduceBEq, Nat.reduceLT, Nat.reduceEqDiff, Bool.or_false, Bool.or_true, Bool.false_eq_true, bq_false, Nat.reduceAdd, hia, decide_eq_true hf]
        refine calm_ret2 (fun σ => by simpa only [vex_eq] using fun_subst e nm b (by omega) (by omega) σ) ?_
        have hXs := subst_size nm b e
        have hX2 : esize (subE nm b e) ≤ 450 * 450 := Nat.le_trans hXs (Nat.mul_le_mul hs hs')
        have hX3 := depth_le (subE nm b e)
        generalize hX : subE nm b e = X at hXs hX2 hX3
        simp -dsimp -implicitDefEqProofs only [b_new, b_sto, b_nil, ev_t, get_cons, get_nil, put_cons, put_nil, putd_some, keepOnly_nil, keepOnly_cons, optT_some, ptrT_ptr, onT_true, t_load, t_call, w_ops, w_seq, then_normal, V.copy, V.lend, V.lend1, V.cells, V.boxable, v_packA, ldK_some, v_load_ptr, over, List.cons_append, List.nil_append, List.drop_succ_cons, List.drop_zero, List.take_succ_cons, List.take_zero, List.length_cons, List.length_nil, List.getElem?_cons_zero, List.getElem?_cons_succ, Nat.zero_add, Nat.reduceLeDiff, and_true, eq_self, reduceIte, List.contains_cons, List.contains_nil, List.map_cons, List.map_nil, Nat.reduceBEq, Nat.reduceLT, Nat.reduceEqDiff, Bool.or_false, Bool.or_true, Bool.false_eq_true, Nat.reduceAdd]
        refine fun_ret (by simpa only [vex_eq] using fun_rvalid X (by omega) (by omega) _) ?_
        by_cases hvX : validE X = 0
        case neg =>
          simp -dsimp -implicitDefEqProofs only [ev_t, ev_k, get_cons, get_nil, put_cons, put_nil, putd_some, keepOnly_nil, keepOnly_cons, optT_some, boolT_bool, iteT_true, iteT_false, t_mv, t_pick, t_bin, t_ia, t_call, t_guard, t_nil, w_ops, w_seq, w_cond, then_normal, V.copy, V.lend, v_neq, v_pick_tj, List.length_nil, eq_self, Bool.not_true, Bool.not_false, reduceIte, List.contains_cons, List.contains_nil, List.map_nil, Nat.reduceBEq, Nat.reduceLT, Nat.reduceEqDiff, Bool.or_false, Bool.or_true, Bool.false_eq_true, bq_false, decide_eq_false hvX]
          refine fun_ret (hA' _) ?_
          simp -dsimp -implicitDefEqProofs only [ev_t, ev_k, get_cons, get_nil, put_cons, put_nil, putd_some, keepOnly_nil, keepOnly_cons, t_mv, t_ia, t_nil, w_ops, w_seq, w_ret, then_normal, then_ret, V.copy, List.length_nil, eq_self, reduceIte, List.contains_cons, List.contains_nil, Nat.reduceBEq, Nat.reduceLT, Nat.reduceEqDiff, Bool.or_false, Bool.false_eq_true]
          exact out _ _ rfl
        simp -dsimp -implicitDefEqProofs only [ev_t, ev_k, get_cons, get_nil, put_cons, put_nil, putd_some, optT_some, boolT_bool, iteT_true, t_mv, t_bin, t_load, t_call, t_guard, V.copy, V.lend, V.lend1, v_neq, v_packA, ldK_some, v_load_ptr, List.drop_zero, List.take_succ_cons, List.take_zero, List.length_cons, List.length_nil, List.getElem?_cons_zero, Nat.zero_add, Nat.reduceLeDiff, eq_self, Bool.not_true, Bool.not_false, reduceIte, List.map_cons, List.map_nil, Nat.reduceLT, Nat.reduceEqDiff, bq_false, Nat.reduceAdd, decide_eq_true hvX]
        refine fun_ret (by simpa only [vex_eq] using fun_rvalid e (by omega) (by omega) _) ?_
        by_cases hve : validE e = 0
        case neg =>
          simp -dsimp -implicitDefEqProofs only [ev_t, ev_k, get_cons, get_nil, put_cons, put_nil, putd_some, keepOnly_nil, keepOnly_cons, optT_some, boolT_bool, iteT_true, t_mv, t_pick, t_bin, t_ia, t_call, t_guard, t_nil, w_ops, w_seq, w_cond, then_normal, V.copy, V.lend, v_neq, v_pick, List.length_nil, cond_false, eq_self, Bool.not_false, reduceIte, List.contains_cons, List.contains_nil, List.map_nil, Nat.reduceBEq, Nat.reduceLT, Nat.reduceEqDiff, Bool.or_false, Bool.or_true, Bool.false_eq_true, bq_false, decide_eq_false hve]
          refine fun_ret (hA' _) ?_
          simp -dsimp -implicitDefEqProofs only [ev_t, ev_k, get_cons, get_nil, put_cons, put_nil, putd_some, keepOnly_nil, keepOnly_cons, t_mv, t_ia, t_nil, w_ops, w_seq, w_ret, then_normal, then_ret, V.copy, List.length_nil, eq_self, reduceIte, List.contains_cons, List.contains_nil, Nat.reduceBEq, Nat.reduceLT, Nat.reduceEqDiff, Bool.or_false, Bool.false_eq_true]
          exact out _ _ rfl
        have hEq : evalE X env = evalE e (⟨nm, x⟩ :: env) := by
          subst hX
          exact subst_eval hnm b (by rw [← hxf, hf]) e hve hvX
        simp -dsimp -implicitDefEqProofs only [ev_t, ev_k, get_cons, get_nil, put_cons, put_nil, putd_some, keepOnly_nil, keepOnly_cons, optT_some, ownT_own, rwT_some, boolT_bool, iteT_true, iteT_false, onT_true, t_mv, t_pick, t_bin, t_ia, t_load, t_bld, t_mvo, t_app, t_mkso, t_guard, t_nil, w_skip, w_ops, w_seq, w_cond, then_normal, V.copy, V.cells, v_rows_d, v_neq, v_pick, v_pack1, v_load_row, over, bldV, rowsOf, plains, V.plain, Option.bind_some, Option.map_some, List.length_map, List.cons_append, List.nil_append, List.drop_succ_cons, List.drop_zero, List.take_succ_cons, List.take_zero, List.length_cons, List.length_nil, Nat.zero_add, Nat.reduceLeDiff, cond_false, and_true, true_and, eq_self, Bool.not_true, Bool.not_false, reduceIte, List.contains_cons, List.contains_nil, List.map_cons, List.map_nil, Nat.reduceBEq, Nat.reduceLT, Nat.reduceEqDiff, Bool.or_false, Bool.or_true, Bool.false_eq_true, bq_false, Nat.reduceAdd, List.all_cons, List.all_nil, Bool.and_true, hia, dsigs, decide_eq_true hve]
        refine onT_intro ⟨by simp, by omega⟩ ?_
        have hwith : ([[dstr nm, dint x]] ++ env.map fun s => [dstr s.name, dint s.val]) = (⟨nm, x⟩ :: env : List Sig).map fun s => [dstr s.name, dint s.val] := rfl
        rw [hwith]
        simp -dsimp -implicitDefEqProofs only [ev_t, get_cons, get_nil, put_cons, put_nil, putd_some, keepOnly_nil, keepOnly_cons, optT_some, ownT_own, t_mv, t_load, t_call, t_mvo, t_nil, w_ops, w_seq, then_normal, V.copy, V.lend, V.lend1, v_packA, ldK_some, v_load_ptr, List.drop_zero, List.take_succ_cons, List.take_zero, List.length_cons, List.length_nil, List.getElem?_cons_zero, List.getElem?_cons_succ, Nat.zero_add, Nat.reduceLeDiff, eq_self, reduceIte, List.contains_cons, List.contains_nil, List.map_cons, List.map_nil, Nat.reduceBEq, Nat.reduceLT, Nat.reduceEqDiff, Bool.or_false, Bool.or_true, Bool.false_eq_true, Nat.reduceAdd]
        refine fun_ret (by simpa only [vex_eq, dsigs] using fun_eval X env (by omega) (by omega) _) ?_
        rw [hEq]
        simp -dsimp -implicitDefEqProofs only [ev_t, get_cons, get_nil, put_cons, put_nil, putd_some, keepOnly_nil, keepOnly_cons, optT_some, t_mv, t_ext, t_load, t_call, t_nil, w_ops, w_seq, then_normal, V.copy, V.lend, V.lend1, v_packA, v_ext, ldK_some, v_load_ptr, Option.map_some, List.drop_zero, List.take_succ_cons, List.take_zero, List.length_cons, List.length_nil, List.getElem?_cons_zero, List.getElem?_cons_succ, Nat.zero_add, Nat.reduceLeDiff, eq_self, reduceIte, List.contains_cons, List.contains_nil, List.map_cons, List.map_nil, Nat.reduceBEq, Nat.reduceLT, Nat.reduceEqDiff, Bool.or_false, Bool.or_true, Bool.false_eq_true, Nat.reduceAdd]
        refine fun_ret (by simpa only [vex_eq, dsigs, List.map_cons] using fun_eval e (⟨nm, x⟩ :: env) (by omega) (by omega) _) ?_
        simp -dsimp -implicitDefEqProofs only [ev_t, ev_k, get_cons, get_nil, put_cons, put_nil, putd_some, keepOnly_nil, keepOnly_cons, optT_some, boolT_bool, iteT_true, t_mv, t_pick, t_bin, t_ext, t_call, t_guard, t_nil, w_ops, w_seq, then_normal, V.copy, V.lend, v_eql, v_pick, v_ext, Option.map_some, List.length_nil, List.getElem?_cons_zero, List.getElem?_cons_succ, cond_true, eq_self, reduceIte, List.contains_cons, List.contains_nil, List.map_nil, Nat.reduceBEq, Nat.reduceLT, Nat.reduceEqDiff, Bool.or_false, Bool.or_true, Bool.false_eq_true, bq_true, decide_true]
        refine fun_ret (hA' _) ?_
        simp -dsimp -implicitDefEqProofs only [ev_t, ev_k, get_cons, get_nil, put_cons, put_nil, putd_some, keepOnly_nil, keepOnly_cons, optT_some, t_mv, t_pick, t_nil, w_ret, then_normal, V.copy, v_pick, List.length_nil, cond_true, eq_self, reduceIte, List.contains_cons, List.contains_nil, Nat.reduceBEq, Nat.reduceLT, Nat.reduceEqDiff, Bool.or_false, Bool.false_eq_true]
        exact out _ _ rfl
end Go.Proofs.YtibfoafepjggjaaDoor
