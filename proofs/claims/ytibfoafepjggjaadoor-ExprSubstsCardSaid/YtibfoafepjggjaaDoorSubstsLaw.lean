/-
  The law ExprSubsts: its walk.
-/
import Derived.Test.YtibfoafepjggjaaDoorRSubst
import Derived.Test.YtibfoafepjggjaaDoorSame8
import Derived.Test.YtibfoafepjggjaaDoorSameLaw
import Derived.Test.YtibfoafepjggjaaDoorShapes
namespace Go.Proofs.YtibfoafepjggjaaDoor
open Go.RowKit

theorem variable_fun (s : ByteArray) (σ : List (List V)) : Fun G 32 [.d (dstr s)] σ (RetV (vex (.mk 2 0 s [])) σ) := by
  refine fun_code Tryd.func32 k32 rfl fun hb hw => ?_
  unfold c32
  simp -dsimp -implicitDefEqProofs only [ev_t, ev_k, get_cons, get_nil, put_cons, put_nil, putd_some, keepOnly_nil, keepOnly_cons, optT_some, ptrT_ptr, bxT_some, onT_true, t_mv, t_bld, t_new, t_sto, t_nil, w_ops, w_seq, w_ret, then_normal, slots0, V.copy, V.cells, V.boxable, box_at0, set_at0, over, bldV, Option.map_some, List.cons_append, List.nil_append, List.drop_succ_cons, List.drop_zero, List.take_succ_cons, List.take_zero, List.length_cons, List.length_nil, List.getElem?_cons_zero, List.set_cons_zero, Nat.zero_add, Nat.reduceLeDiff, and_true, eq_self, reduceIte, reduceCtorEq, List.contains_cons, List.contains_nil, List.map_cons, List.map_nil, Nat.reduceBEq, Nat.reduceLT, Nat.reduceEqDiff, Bool.or_false, Bool.or_true, Bool.false_eq_true, Nat.reduceAdd]
  exact fin_ret (v := vex (.mk 2 0 s [])) hb (by rw [vex_eq]; simp [rs32, resV, res1, Ex.op, Ex.num, Ex.name, Ex.args, get_cons, V.copy, V.lend, V.lend1, v_packA, ldK_some, v_load_ptr, Option.map_some, List.length_append, List.drop_zero, List.take_succ_cons, List.length_cons, List.length_nil, Nat.zero_add, eq_self, reduceIte, List.map_cons, List.map_nil, Nat.reduceAdd]) (by rw [vex_eq]; rfl) List.take_left ⟨rfl, rfl⟩
theorem exprSubsts_fun (e : Ex) (nm : ByteArray) (b : Ex) : Fun G 8 [vex e, .d (dstr nm), vex b] [] (RetV (.d (.lit (.bool true))) []) := by
  have hF := fun (e : Ex) (n : Int) (h1 : 0 ≤ n) (h2 : n ≤ 1000) σ => fun_few e n h1 h2 σ
  have hA := fun σ => fun_awake σ
  refine fun_code Tryd.func8 k8 (by simp only [vex_eq]; rfl) fun hb hw => ?_
  have out : ∀ (σ' l : List (List V)), σ' = [] ++ l → fin ([] : List (List V)).length rs8 (RetV (.d (.lit (.bool true))) []) .ret [(6, .d (.lit (.bool true)))] σ' := fun σ' l e => by
    subst e; exact fin_ret hb rfl rfl List.take_left ⟨rfl, rfl⟩
  unfold c8
  simp -dsimp -implicitDefEqProofs only [ev_t, ev_k, get_cons, get_nil, put_cons, put_nil, putd_some, keepOnly_nil, keepOnly_cons, optT_some, onT_true, t_mv, t_load, t_call, t_box, t_nil, w_ops, w_seq, then_normal, slots0, V.copy, V.lend, V.lend1, V.cells, V.boxable, v_packA, ldK_some, v_load_ptr, List.cons_append, List.nil_append, List.drop_zero, List.take_succ_cons, List.take_zero, List.length_cons, List.length_nil, List.getElem?_cons_zero, Nat.zero_add, Nat.reduceLeDiff, eq_self, reduceIte, reduceCtorEq, List.contains_cons, List.contains_nil, List.map_cons, List.map_nil, Nat.reduceBEq, Nat.reduceLT, Nat.reduceEqDiff, Bool.or_false, Bool.or_true, Bool.false_eq_true, Nat.reduceAdd, vex_eq]
  refine fun_ret (by simpa only [vex_eq] using hF e 60 (by omega) (by omega) _) ?_
  simp -dsimp -implicitDefEqProofs only [ev_t, get_cons, get_nil, put_cons, put_nil, putd_some, optT_some, boolT_bool, t_mv, t_un, t_guard, V.copy, v_not, eq_self, reduceIte, Nat.reduceLT, Nat.reduceEqDiff, bq_false, Bool.not_not]
  refine iteT_intro (fun h1 => ?_) (fun h1 => ?_)
  · have he := (few_of (n := 60) (e := e) (by omega) (by simpa using h1)).1
    simp -dsimp -implicitDefEqProofs only [ev_t, ev_k, get_cons, get_nil, put_cons, put_nil, putd_some, optT_some, boolT_bool, iteT_true, t_load, t_call, t_guard, V.copy, V.lend, V.lend1, v_packA, ldK_some, v_load_ptr, List.drop_zero, List.take_succ_cons, List.take_zero, List.length_cons, List.length_nil, List.getElem?_cons_zero, List.getElem?_cons_succ, Nat.zero_add, Nat.reduceLeDiff, eq_self, Bool.not_false, reduceIte, List.map_cons, List.map_nil, Nat.reduceLT, Nat.reduceEqDiff, bq_false, Nat.reduceAdd]
    refine fun_ret (by simpa only [vex_eq] using hF b 20 (by omega) (by omega) _) ?_
    simp -dsimp -implicitDefEqProofs only [ev_t, ev_k, get_cons, get_nil, put_cons, put_nil, putd_some, optT_some, boolT_bool, iteT_true, t_mv, t_pick, t_un, t_guard, V.copy, v_not, v_pick, cond_false, eq_self, Bool.not_false, reduceIte, Nat.reduceLT, Nat.reduceEqDiff, bq_false, Bool.not_not]
    refine iteT_intro (fun h2 => ?_) (fun h2 => ?_)
    · have hbz := (few_of (n := 20) (e := b) (by omega) (by simpa using h2)).1
      simp -dsimp -implicitDefEqProofs only [ev_t, ev_k, get_cons, get_nil, put_cons, put_nil, putd_some, keepOnly_nil, keepOnly_cons, optT_some, boolT_bool, iteT_true, t_mv, t_pick, t_bin, t_len, t_load, t_guard, t_nil, w_ops, w_seq, w_cond, then_normal, V.copy, v_len_str, v_gtr, v_pick, List.length_nil, cond_false, eq_self, Bool.not_false, reduceIte, List.contains_cons, List.contains_nil, Nat.reduceBEq, Nat.reduceLT, Nat.reduceEqDiff, Bool.or_false, Bool.or_true, Bool.false_eq_true, bq_false]
      refine iteT_intro (fun h3 => ?_) (fun h3 => ?_)
      · simp -dsimp -implicitDefEqProofs only [t_call, w_ops, w_seq, V.lend, List.map_nil]
        refine fun_ret (hA _) ?_
        simp -dsimp -implicitDefEqProofs only [ev_t, get_cons, get_nil, put_cons, put_nil, putd_some, keepOnly_nil, keepOnly_cons, t_mv, t_load, t_nil, w_ops, w_seq, w_ret, then_normal, then_ret, V.copy, List.length_nil, eq_self, reduceIte, List.contains_cons, List.contains_nil, Nat.reduceBEq, Nat.reduceLT, Nat.reduceEqDiff, Bool.or_false, Bool.false_eq_true]
        exact out _ _ rfl
      · simp -dsimp -implicitDefEqProofs only [ev_t, get_cons, get_nil, put_cons, put_nil, putd_some, optT_some, t_mv, t_load, t_call, w_skip, w_ops, w_seq, then_normal, V.copy, V.lend, V.lend1, v_packA, ldK_some, v_load_ptr, List.drop_zero, List.take_succ_cons, List.take_zero, List.length_cons, List.length_nil, List.getElem?_cons_zero, List.getElem?_cons_succ, Nat.zero_add, Nat.reduceLeDiff, eq_self, reduceIte, List.map_cons, List.map_nil, Nat.reduceLT, Nat.reduceEqDiff, Nat.reduceAdd]
        refine fun_ret (by simpa only [vex_eq] using fun_subst e nm b (by omega) (by omega) _) ?_
        simp -dsimp -implicitDefEqProofs only [ev_t, get_cons, get_nil, put_cons, put_nil, putd_some, keepOnly_nil, keepOnly_cons, optT_some, ptrT_ptr, bxT_some, onT_true, c_mv, c_load, t_new, t_sto, t_nil, c_call, w_draw, w_seq, then_normal, V.copy, V.lend, V.lend1, V.cells, V.boxable, v_packA, ldK_some, v_load_ptr, over, List.cons_append, List.nil_append, List.drop_succ_cons, List.drop_zero, List.take_succ_cons, List.take_zero, List.length_cons, List.length_nil, List.getElem?_cons_zero, List.getElem?_cons_succ, List.set_cons_zero, List.set_cons_succ, Nat.zero_add, Nat.reduceLeDiff, and_true, eq_self, reduceIte, List.contains_cons, List.contains_nil, List.map_cons, List.map_nil, Nat.reduceBEq, Nat.reduceLT, Nat.reduceEqDiff, Bool.or_false, Bool.or_true, Bool.false_eq_true, Nat.reduceAdd]
        refine calm_ret (by simpa only [vex_eq] using rsubst_fun nm b e (by omega) _) ?_
        simp -dsimp -implicitDefEqProofs only [ev_t, get_cons, get_nil, put_cons, put_nil, putd_some, c_call, V.lend, V.lend1, eq_self, reduceIte, List.map_cons, List.map_nil, Nat.reduceLT, Nat.reduceEqDiff]
        refine calm_ret (by simpa only [vex_eq] using rsame_fun (subE nm b e) (subE nm b e) _) ?_
        simp -dsimp -implicitDefEqProofs only [ev_t, get_cons, get_nil, put_cons, put_nil, putd_some, optT_some, boolT_bool, iteT_true, c_mv, c_load, c_call, c_guard, V.copy, V.lend, v_packA, ldK_some, v_load_ptr, List.drop_zero, List.take_succ_cons, List.take_zero, List.length_cons, List.length_nil, List.getElem?_cons_zero, Nat.zero_add, Nat.reduceLeDiff, eq_self, reduceIte, List.map_cons, List.map_nil, Nat.reduceLT, Nat.reduceEqDiff, bq_true, Nat.reduceAdd, sameE_refl]
        refine calm_ret (by simpa only [vex_eq] using variable_fun nm _) ?_
        simp -dsimp -implicitDefEqProofs only [ev_t, get_cons, get_nil, put_cons, put_nil, putd_some, boolT_bool, iteT_true, c_call, c_guard, V.lend, V.lend1, eq_self, reduceIte, List.map_cons, List.map_nil, Nat.reduceLT, Nat.reduceEqDiff, bq_true]
        refine calm_ret (by simpa only [vex_eq] using fun_subst e nm (.mk 2 0 nm []) (by omega) (by simp [esize, esizes]) _) ?_
        simp -dsimp -implicitDefEqProofs only [ev_t, get_cons, get_nil, put_cons, put_nil, putd_some, optT_some, boolT_bool, iteT_true, c_mv, c_load, c_call, c_guard, V.copy, V.lend, v_packA, ldK_some, v_load_ptr, List.drop_zero, List.take_succ_cons, List.take_zero, List.length_cons, List.length_nil, List.getElem?_cons_zero, Nat.zero_add, Nat.reduceLeDiff, eq_self, reduceIte, List.map_cons, List.map_nil, Nat.reduceLT, Nat.reduceEqDiff, bq_true, Nat.reduceAdd]
        refine calm_ret (by simpa only [vex_eq] using variable_fun nm _) ?_
        simp -dsimp -implicitDefEqProofs only [ev_t, get_cons, get_nil, put_cons, put_nil, putd_some, boolT_bool, iteT_true, c_call, c_guard, V.lend, V.lend1, eq_self, reduceIte, List.map_cons, List.map_nil, Nat.reduceLT, Nat.reduceEqDiff, bq_true]
        refine calm_ret (by simpa only [vex_eq] using rsubst_fun nm (.mk 2 0 nm []) e (by omega) _) ?_
        simp -dsimp -implicitDefEqProofs only [ev_t, get_cons, get_nil, put_cons, put_nil, putd_some, boolT_bool, iteT_true, c_call, c_guard, V.lend, V.lend1, eq_self, reduceIte, List.map_cons, List.map_nil, Nat.reduceLT, Nat.reduceEqDiff, bq_true]
        refine calm_ret (by simpa only [vex_eq] using same_fun (subE nm (.mk 2 0 nm []) e) (subE nm (.mk 2 0 nm []) e) _) ?_
        simp -dsimp -implicitDefEqProofs only [ev_t, ev_k, get_cons, get_nil, put_cons, put_nil, putd_some, optT_some, boolT_bool, iteT_true, c_mv, c_pick, c_call, c_guard, V.copy, V.lend, v_pick, cond_true, eq_self, reduceIte, List.map_nil, Nat.reduceLT, Nat.reduceEqDiff, bq_true, sameE_refl]
        refine calm_ret (hA _) ?_
        simp -dsimp -implicitDefEqProofs only [ev_t, ev_k, get_cons, get_nil, put_cons, put_nil, putd_some, keepOnly_nil, keepOnly_cons, optT_some, c_mv, c_pick, c_nil, w_ret, then_normal, V.copy, v_pick, List.length_nil, cond_true, eq_self, reduceIte, List.contains_cons, List.contains_nil, Nat.reduceBEq, Nat.reduceLT, Nat.reduceEqDiff, Bool.or_false, Bool.false_eq_true]
        exact out _ _ rfl
    · simp -dsimp -implicitDefEqProofs only [ev_t, ev_k, get_cons, get_nil, put_cons, put_nil, putd_some, keepOnly_nil, keepOnly_cons, optT_some, boolT_bool, iteT_true, iteT_false, t_pick, t_load, t_call, t_guard, t_nil, w_ops, w_seq, w_cond, then_normal, V.lend, v_pick_tj, List.length_nil, eq_self, Bool.not_true, Bool.not_false, reduceIte, List.contains_cons, List.contains_nil, List.map_nil, Nat.reduceBEq, Nat.reduceLT, Nat.reduceEqDiff, Bool.or_false, Bool.or_true, Bool.false_eq_true, bq_false]
      refine fun_ret (hA _) ?_
      simp -dsimp -implicitDefEqProofs only [ev_t, get_cons, get_nil, put_cons, put_nil, putd_some, keepOnly_nil, keepOnly_cons, t_mv, t_load, t_nil, w_ops, w_seq, w_ret, then_normal, then_ret, V.copy, List.length_nil, eq_self, reduceIte, List.contains_cons, List.contains_nil, Nat.reduceBEq, Nat.reduceLT, Nat.reduceEqDiff, Bool.or_false, Bool.false_eq_true]
      exact out _ _ rfl
  · simp -dsimp -implicitDefEqProofs only [ev_t, ev_k, get_cons, get_nil, put_cons, put_nil, putd_some, keepOnly_nil, keepOnly_cons, optT_some, boolT_bool, iteT_true, iteT_false, t_mv, t_pick, t_load, t_call, t_guard, t_nil, w_ops, w_seq, w_cond, then_normal, V.copy, V.lend, v_pick_tj, List.length_nil, eq_self, Bool.not_true, Bool.not_false, reduceIte, List.contains_cons, List.contains_nil, List.map_nil, Nat.reduceBEq, Nat.reduceLT, Nat.reduceEqDiff, Bool.or_false, Bool.or_true, Bool.false_eq_true, bq_false]
    refine fun_ret (hA _) ?_
    simp -dsimp -implicitDefEqProofs only [ev_t, get_cons, get_nil, put_cons, put_nil, putd_some, keepOnly_nil, keepOnly_cons, t_mv, t_load, t_nil, w_ops, w_seq, w_ret, then_normal, then_ret, V.copy, List.length_nil, eq_self, reduceIte, List.contains_cons, List.contains_nil, Nat.reduceBEq, Nat.reduceLT, Nat.reduceEqDiff, Bool.or_false, Bool.false_eq_true]
    exact out _ _ rfl
end Go.Proofs.YtibfoafepjggjaaDoor
