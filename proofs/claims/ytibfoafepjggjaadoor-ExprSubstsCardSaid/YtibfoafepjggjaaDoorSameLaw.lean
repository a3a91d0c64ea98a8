/-
  The law ExprSame: its walk.
-/
import Derived.Test.YtibfoafepjggjaaDoorSame8
import Derived.Test.YtibfoafepjggjaaDoorIn8
namespace Go.Proofs.YtibfoafepjggjaaDoor
open Go.RowKit

theorem sameL_refl : ∀ (l : List Ex), (∀ a, a ∈ l → sameE a a = true) → sameL l l = true
  | [], _ => rfl
  | a :: r, h => by simp only [sameL, h a (by simp), sameL_refl r (fun b hb => h b (by simp [hb])), Bool.and_self]
theorem sameE_refl (a : Ex) : sameE a a = true := by
  induction a using Ex.ind2 with
  | h a ih => rw [sameE_eq, sameL_refl _ ih]; simp
theorem sameL_symm : ∀ (l l' : List Ex), (∀ a, a ∈ l → ∀ b, sameE a b = sameE b a) → sameL l l' = sameL l' l
  | [], [], _ => rfl
  | a :: r, b :: r', h => by simp only [sameL, h a (by simp) b, sameL_symm r r' (fun b hb => h b (by simp [hb]))]
  | [], _ :: _, _ => rfl
  | _ :: _, [], _ => rfl
theorem sameE_symm (a : Ex) : ∀ b, sameE a b = sameE b a := by
  induction a using Ex.ind2 with
  | h a ih =>
  intro b
  rw [sameE_eq, sameE_eq b a, sameL_symm _ _ ih, decide_eq_decide.2 (⟨Eq.symm, Eq.symm⟩ : a.op = b.op ↔ b.op = a.op), decide_eq_decide.2 (⟨Eq.symm, Eq.symm⟩ : a.num = b.num ↔ b.num = a.num), decide_eq_decide.2 (⟨Eq.symm, Eq.symm⟩ : a.name = b.name ↔ b.name = a.name)]
theorem exprSame_fun (a b : Ex) : Fun G 7 [vex a, vex b] [] (RetV (.d (.lit (.bool true))) []) := by
  have hF := fun (e : Ex) σ => fun_few e 60 (by omega) (by omega) σ
  have hA := fun σ => fun_awake σ
  have hr := sameE_refl a
  have hsy := sameE_symm b a
  refine fun_code Tryd.func7 k7 (by simp only [vex_eq]; rfl) fun hb hw => ?_
  have out : ∀ (σ' l : List (List V)), σ' = [] ++ l → fin ([] : List (List V)).length rs7 (RetV (.d (.lit (.bool true))) []) .ret [(4, .d (.lit (.bool true)))] σ' := fun σ' l e => by
    subst e; exact fin_ret hb rfl rfl List.take_left ⟨rfl, rfl⟩
  unfold c7
  simp -dsimp -implicitDefEqProofs only [ev_t, ev_k, get_cons, get_nil, put_cons, put_nil, putd_some, keepOnly_nil, keepOnly_cons, optT_some, onT_true, t_mv, t_load, t_call, t_box, t_nil, w_ops, w_seq, then_normal, slots0, V.copy, V.lend, V.lend1, V.cells, V.boxable, v_packA, ldK_some, v_load_ptr, List.cons_append, List.nil_append, List.drop_zero, List.take_succ_cons, List.take_zero, List.length_cons, List.length_nil, List.getElem?_cons_zero, Nat.zero_add, Nat.reduceLeDiff, eq_self, reduceIte, reduceCtorEq, List.contains_cons, List.contains_nil, List.map_cons, List.map_nil, Nat.reduceBEq, Nat.reduceLT, Nat.reduceEqDiff, Bool.or_false, Bool.or_true, Bool.false_eq_true, Nat.reduceAdd, vex_eq]
  refine fun_ret (by simpa only [vex_eq] using hF a _) ?_
  simp -dsimp -implicitDefEqProofs only [ev_t, get_cons, get_nil, put_cons, put_nil, putd_some, optT_some, boolT_bool, t_mv, t_un, t_guard, V.copy, v_not, eq_self, reduceIte, Nat.reduceLT, Nat.reduceEqDiff, bq_false, Bool.not_not]
  refine iteT_intro (fun h1 => ?_) (fun h1 => ?_)
  · simp -dsimp -implicitDefEqProofs only [ev_t, ev_k, get_cons, get_nil, put_cons, put_nil, putd_some, optT_some, boolT_bool, iteT_true, t_load, t_call, t_guard, V.copy, V.lend, V.lend1, v_packA, ldK_some, v_load_ptr, List.drop_zero, List.take_succ_cons, List.take_zero, List.length_cons, List.length_nil, List.getElem?_cons_zero, List.getElem?_cons_succ, Nat.zero_add, Nat.reduceLeDiff, eq_self, Bool.not_false, reduceIte, List.map_cons, List.map_nil, Nat.reduceLT, Nat.reduceEqDiff, bq_false, Nat.reduceAdd]
    refine fun_ret (by simpa only [vex_eq] using hF b _) ?_
    simp -dsimp -implicitDefEqProofs only [ev_t, ev_k, get_cons, get_nil, put_cons, put_nil, putd_some, keepOnly_nil, keepOnly_cons, optT_some, boolT_bool, iteT_true, t_pick, t_un, c_load, t_guard, t_nil, w_draw, w_seq, w_cond, then_normal, v_not, v_pick, List.length_nil, cond_false, eq_self, Bool.not_false, reduceIte, List.contains_cons, List.contains_nil, Nat.reduceBEq, Nat.reduceLT, Nat.reduceEqDiff, Bool.or_false, Bool.or_true, Bool.false_eq_true, bq_false]
    refine iteT_intro (fun h2 => ?_) (fun h2 => ?_)
    · simp -dsimp -implicitDefEqProofs only [t_call, w_ops, w_seq, V.lend, List.map_nil]
      refine fun_ret (hA _) ?_
      simp -dsimp -implicitDefEqProofs only [ev_t, get_cons, get_nil, put_cons, put_nil, putd_some, keepOnly_nil, keepOnly_cons, t_mv, c_load, t_nil, w_draw, w_seq, w_ret, then_normal, then_ret, V.copy, List.length_nil, eq_self, reduceIte, List.contains_cons, List.contains_nil, Nat.reduceBEq, Nat.reduceLT, Nat.reduceEqDiff, Bool.or_false, Bool.false_eq_true]
      exact out _ _ rfl
    · simp -dsimp -implicitDefEqProofs only [ev_t, get_cons, get_nil, put_cons, put_nil, putd_some, optT_some, c_load, c_call, w_skip, w_draw, w_seq, then_normal, V.copy, V.lend, V.lend1, v_packA, ldK_some, v_load_ptr, List.drop_zero, List.take_succ_cons, List.take_zero, List.length_cons, List.length_nil, List.getElem?_cons_zero, List.getElem?_cons_succ, Nat.zero_add, Nat.reduceLeDiff, eq_self, reduceIte, List.map_cons, List.map_nil, Nat.reduceLT, Nat.reduceEqDiff, Nat.reduceAdd]
      refine calm_ret (by simpa only [vex_eq] using same_fun a b _) ?_
      simp -dsimp -implicitDefEqProofs only [ev_t, get_cons, get_nil, put_cons, put_nil, putd_some, optT_some, c_load, c_call, V.copy, V.lend, V.lend1, v_packA, ldK_some, v_load_ptr, List.drop_zero, List.take_succ_cons, List.take_zero, List.length_cons, List.length_nil, List.getElem?_cons_zero, List.getElem?_cons_succ, Nat.zero_add, Nat.reduceLeDiff, eq_self, reduceIte, List.map_cons, List.map_nil, Nat.reduceLT, Nat.reduceEqDiff, Nat.reduceAdd]
      refine calm_ret (by simpa only [vex_eq] using rsame_fun a b _) ?_
      simp -dsimp -implicitDefEqProofs only [ev_t, get_cons, get_nil, put_cons, put_nil, putd_some, optT_some, boolT_bool, iteT_true, c_mv, c_binb, c_load, c_call, c_guard, V.copy, V.lend, V.lend1, v_beql, v_packA, ldK_some, v_load_ptr, List.drop_zero, List.take_succ_cons, List.take_zero, List.length_cons, List.length_nil, List.getElem?_cons_zero, List.getElem?_cons_succ, Nat.zero_add, Nat.reduceLeDiff, eq_self, reduceIte, List.map_cons, List.map_nil, Nat.reduceLT, Nat.reduceEqDiff, Nat.reduceAdd, beq_self_eq_true]
      refine calm_ret (by simpa only [vex_eq] using (hsy ▸ same_fun b a _ : Fun G 29 [vex b, vex a] _ (RetV (vbool (sameE a b)) _))) ?_
      simp -dsimp -implicitDefEqProofs only [ev_t, get_cons, get_nil, put_cons, put_nil, putd_some, optT_some, boolT_bool, iteT_true, c_load, c_call, c_guard, V.copy, V.lend, V.lend1, v_packA, ldK_some, v_load_ptr, List.drop_zero, List.take_succ_cons, List.take_zero, List.length_cons, List.length_nil, List.getElem?_cons_zero, List.getElem?_cons_succ, Nat.zero_add, Nat.reduceLeDiff, eq_self, reduceIte, List.map_cons, List.map_nil, Nat.reduceLT, Nat.reduceEqDiff, bq_true, Nat.reduceAdd]
      refine calm_ret (by simpa only [vex_eq] using rsame_fun a b _) ?_
      simp -dsimp -implicitDefEqProofs only [ev_t, ev_k, get_cons, get_nil, put_cons, put_nil, putd_some, optT_some, boolT_bool, iteT_true, c_mv, c_pick, c_binb, c_load, c_call, c_guard, V.copy, V.lend, V.lend1, v_beql, v_pick, v_packA, ldK_some, v_load_ptr, List.drop_zero, List.take_succ_cons, List.take_zero, List.length_cons, List.length_nil, List.getElem?_cons_zero, Nat.zero_add, Nat.reduceLeDiff, cond_true, eq_self, reduceIte, List.map_cons, List.map_nil, Nat.reduceLT, Nat.reduceEqDiff, Nat.reduceAdd, beq_self_eq_true]
      refine calm_ret (by simpa only [vex_eq] using same_fun a a _) ?_
      simp -dsimp -implicitDefEqProofs only [ev_t, ev_k, get_cons, get_nil, put_cons, put_nil, putd_some, optT_some, boolT_bool, iteT_true, c_mv, c_pick, c_call, c_guard, V.copy, V.lend, v_pick, cond_true, eq_self, reduceIte, List.map_nil, Nat.reduceLT, Nat.reduceEqDiff, bq_true, hr]
      refine calm_ret (hA _) ?_
      simp -dsimp -implicitDefEqProofs only [ev_t, ev_k, get_cons, get_nil, put_cons, put_nil, putd_some, keepOnly_nil, keepOnly_cons, optT_some, c_mv, c_pick, c_nil, w_ret, then_normal, V.copy, v_pick, List.length_nil, cond_true, eq_self, reduceIte, List.contains_cons, List.contains_nil, Nat.reduceBEq, Nat.reduceLT, Nat.reduceEqDiff, Bool.or_false, Bool.false_eq_true]
      exact out _ _ rfl
  · simp -dsimp -implicitDefEqProofs only [ev_t, ev_k, get_cons, get_nil, put_cons, put_nil, putd_some, keepOnly_nil, keepOnly_cons, optT_some, boolT_bool, iteT_true, iteT_false, t_pick, c_load, t_call, t_guard, t_nil, w_ops, w_draw, w_seq, w_cond, then_normal, V.lend, v_pick_tj, List.length_nil, eq_self, Bool.not_true, Bool.not_false, reduceIte, List.contains_cons, List.contains_nil, List.map_nil, Nat.reduceBEq, Nat.reduceLT, Nat.reduceEqDiff, Bool.or_false, Bool.or_true, Bool.false_eq_true, bq_false]
    refine fun_ret (hA _) ?_
    simp -dsimp -implicitDefEqProofs only [ev_t, get_cons, get_nil, put_cons, put_nil, putd_some, keepOnly_nil, keepOnly_cons, t_mv, c_load, t_nil, w_draw, w_seq, w_ret, then_normal, then_ret, V.copy, List.length_nil, eq_self, reduceIte, List.contains_cons, List.contains_nil, Nat.reduceBEq, Nat.reduceLT, Nat.reduceEqDiff, Bool.or_false, Bool.false_eq_true]
    exact out _ _ rfl
end Go.Proofs.YtibfoafepjggjaaDoor
