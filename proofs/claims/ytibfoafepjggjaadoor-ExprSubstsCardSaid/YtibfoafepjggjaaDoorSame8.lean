/-
  Same, in the plain world.
-/
import Derived.Test.YtibfoafepjggjaaDoorBr8
namespace Go.Proofs.YtibfoafepjggjaaDoor
open Go.RowKit

mutual
def sameE : Ex → Ex → Bool
  | .mk o n s l, .mk o' n' s' l' => (decide (o = o') && (decide (n = n') && (decide (s = s') && sameL l l')))
def sameL : List Ex → List Ex → Bool
  | [], [] => true
  | a :: r, b :: r' => sameE a b && sameL r r'
  | _, _ => false
end
theorem sameL_len : ∀ {l l' : List Ex}, l.length ≠ l'.length → sameL l l' = false
  | [], [], h => absurd rfl h
  | a :: r, b :: r', h => by simp only [sameL, sameL_len (l := r) (l' := r') (by simpa using h), Bool.and_false]
  | [], _ :: _, _ => rfl
  | _ :: _, [], _ => rfl
theorem sameE_eq (a b : Ex) : sameE a b = (decide (a.op = b.op) && (decide (a.num = b.num) && (decide (a.name = b.name) && sameL a.args b.args))) := by
  cases a; cases b; rfl
theorem Ex.ind2 {P : Ex → Prop} (h : ∀ e : Ex, (∀ a, a ∈ e.args → P a) → P e) : ∀ e, P e := Ex.ind fun o n s l ih => h (.mk o n s l) ih
theorem sameL_step {l l' : List Ex} {j : Nat} (h : j < l.length) (h' : j < l'.length) : sameL (l.drop j) (l'.drop j) = (sameE l[j] l'[j] && sameL (l.drop (j + 1)) (l'.drop (j + 1))) := by
  rw [List.drop_eq_getElem_cons h, List.drop_eq_getElem_cons h']; rfl

theorem equal_fun (l l' : List Ex) (F : FuncId) (h : ∀ i (hi : i < l.length) (hi' : i < l'.length) σ, Fun G F [vex l[i], vex l'[i]] σ (RetV (vbool (sameE l[i] l'[i])) σ)) (σ : List (List V)) :
    Fun G 51 [.d (.sl (l.map dex)), .d (.sl (l'.map dex)), .fn F []] σ (RetV (vbool (sameL l l')) σ) := by
  refine fun_code Tryd.func51 k51 rfl fun hb hw => ?_
  have hm := wf_len (hw 0 (by simp))
  rw [List.length_map] at hm
  unfold c51
  simp -dsimp -implicitDefEqProofs only [ev_t, ev_k, get_cons, get_nil, put_cons, put_nil, putd_some, keepOnly_nil, keepOnly_cons, optT_some, boolT_bool, t_mv, t_bin, t_len, t_nil, w_ops, w_seq, w_cond, then_normal, slots0, V.copy, v_len_d, v_neq, List.length_map, Nat.zero_add, eq_self, reduceIte, reduceCtorEq, List.contains_cons, List.contains_nil, Nat.reduceBEq, Nat.reduceLT, Nat.reduceEqDiff, Bool.or_false, Bool.or_true, Bool.false_eq_true, Nat.reduceAdd, Int.ofNat_inj]
  refine iteT_intro (fun hne => ?_) (fun hlen => ?_)
  · simp -dsimp -implicitDefEqProofs only [ev_t, ev_k, put_cons, put_nil, putd_some, keepOnly_nil, keepOnly_cons, t_mv, t_len, t_nil, w_ops, w_seq, w_ret, then_normal, then_ret, V.copy, eq_self, reduceIte, reduceCtorEq, List.contains_cons, List.contains_nil, Nat.reduceBEq, Nat.reduceLT, Nat.reduceEqDiff, Bool.or_false, Bool.false_eq_true]
    exact fin_ret hb rfl rfl List.take_length ⟨by rw [sameL_len (by simpa using hne)]; rfl, rfl⟩
  · have hlen : l.length = l'.length := by simpa using hlen
    simp -dsimp -implicitDefEqProofs only [ev_t, ev_k, get_cons, get_nil, put_cons, put_nil, putd_some, keepOnly_nil, keepOnly_cons, optT_some, t_mv, t_len, t_nil, w_skip, w_ops, w_seq, w_block, w_ret, then_normal, V.copy, v_len_d, List.length_map, eq_self, reduceIte, reduceCtorEq, List.contains_cons, List.contains_nil, Nat.reduceBEq, Nat.reduceLT, Nat.reduceEqDiff, Bool.or_false, Bool.or_true, Bool.false_eq_true]
    refine awp_for (R := fun (j : Nat) ρ σ' => ρ = [(1, .d (.sl (l'.map dex))), (2, .fn F []), (15, .d (.sl (l.map dex))), (16, vint .i64 l.length), (17, vint .i64 j)] ∧ σ' = σ ∧ sameL l l' = sameL (l.drop j) (l'.drop j)) l.length ⟨rfl, rfl, by simp⟩ ?_ _
    rintro j ρ' σ' hj ⟨rfl, rfl, hrec⟩
    by_cases hlt : j < l.length
    · have hlt' : j < l'.length := by omega
      simp -dsimp -implicitDefEqProofs only [ev_t, ev_k, get_cons, get_nil, put_cons, put_nil, putd_some, keepOnly_nil, keepOnly_cons, optT_some, fnT_fn, ptrT_ptr, bxT_some, boolT_bool, iteT_true, onT_true, t_mv, t_bin, t_ia, t_load, t_callv, t_new, t_sto, t_nil, w_skip, w_ops, w_seq, w_cond, w_block, w_ret, then_normal, V.copy, V.lend, V.lend1, V.cells, V.boxable, v_rows_d, v_lss, iaK_some, v_ia_nat, v_packA, v_load_row, ldK_some, v_load_ptr, box_at, box_at0, set_at, set_at0, over, Option.bind_some, Option.map_some, List.getElem?_map, List.length_append, List.append_assoc, List.cons_append, List.nil_append, List.drop_succ_cons, List.drop_zero, List.take_succ_cons, List.take_zero, List.length_cons, List.length_nil, List.getElem?_cons_zero, List.getElem?_cons_succ, List.set_cons_zero, List.set_cons_succ, Nat.zero_add, Nat.reduceLeDiff, and_true, true_and, eq_self, reduceIte, List.contains_cons, List.contains_nil, List.map_cons, List.map_nil, Nat.reduceBEq, Nat.reduceLT, Nat.reduceEqDiff, Bool.or_false, Bool.or_true, Bool.false_eq_true, Nat.reduceAdd, Int.ofNat_lt, hlt, decide_true, List.getElem?_eq_getElem hlt, List.getElem?_eq_getElem hlt', dex_eq]
      refine fun_ret (by simpa only [vex_eq] using h j hlt hlt' _) ?_
      simp -dsimp -implicitDefEqProofs only [ev_t, ev_k, get_cons, get_nil, put_cons, put_nil, putd_some, keepOnly_nil, keepOnly_cons, optT_some, boolT_bool, t_mv, t_bin, t_un, t_nil, w_ops, w_seq, w_cond, w_ret, then_normal, V.copy, v_not, eq_self, reduceIte, List.contains_cons, List.contains_nil, Nat.reduceBEq, Nat.reduceLT, Nat.reduceEqDiff, Bool.or_false, Bool.or_true, Bool.false_eq_true]
      refine iteT_intro (fun hs => ?_) (fun hs => ?_)
      · simp -dsimp -implicitDefEqProofs only [ev_t, ev_k, put_cons, put_nil, putd_some, keepOnly_nil, keepOnly_cons, t_mv, t_bin, t_nil, w_ops, w_seq, w_ret, then_normal, then_ret, blk_ret, V.copy, eq_self, reduceIte, List.contains_cons, List.contains_nil, Nat.reduceBEq, Nat.reduceLT, Nat.reduceEqDiff, Bool.or_false, Bool.false_eq_true]
        exact fin_ret hb rfl rfl List.take_left ⟨by rw [hrec, sameL_step hlt hlt']; simp only [Bool.not_eq_true'] at hs; rw [hs]; rfl, rfl⟩
      · simp -dsimp -implicitDefEqProofs only [ev_t, ev_k, get_cons, get_nil, put_cons, put_nil, putd_some, keepOnly_nil, keepOnly_cons, optT_some, t_mv, t_bin, t_nil, w_skip, w_ops, w_seq, w_ret, then_normal, blk_normal, V.copy, v_add, eq_self, reduceIte, List.contains_cons, List.contains_nil, Nat.reduceBEq, Nat.reduceLT, Nat.reduceEqDiff, Bool.or_false, Bool.or_true, Bool.false_eq_true, wrap_nat hlt hm]
        refine ⟨hlt, Nxt.drop (Nat.le_refl _) hb ?_ ?_⟩
        · rfl
        · exact ⟨rfl, rfl, by rw [hrec, sameL_step hlt hlt']; simp only [Bool.not_eq_false'] at hs; rw [hs]; rfl⟩
    · simp -dsimp -implicitDefEqProofs only [ev_t, ev_k, get_cons, get_nil, put_cons, put_nil, putd_some, keepOnly_nil, keepOnly_cons, optT_some, boolT_bool, iteT_false, t_mv, t_bin, t_ia, t_nil, w_ops, w_seq, w_cond, w_block, w_exit, w_ret, then_normal, then_exit, blk_exit, V.copy, v_lss, eq_self, reduceIte, List.contains_cons, List.contains_nil, Nat.reduceBEq, Nat.reduceLT, Nat.reduceEqDiff, Bool.or_false, Bool.or_true, Bool.false_eq_true, Int.ofNat_lt, hlt, decide_false]
      exact fin_ret hb rfl rfl List.take_length ⟨by rw [hrec, List.drop_of_length_le (by omega), List.drop_of_length_le (by omega)]; rfl, rfl⟩

theorem same_fun (a : Ex) : ∀ (b : Ex) (σ : List (List V)), Fun G 29 [vex a, vex b] σ (RetV (vbool (sameE a b)) σ) := by
  induction a using Ex.ind2 with
  | h a ih =>
  intro b σ
  have hE := fun σ' => equal_fun a.args b.args 29 (fun i hi hi' σ => ih _ (List.getElem_mem hi) _ σ) σ'
  refine fun_code Tryd.func29 k29 (by simp only [vex_eq]; rfl) fun hb hw => ?_
  have hq := sameE_eq a b
  unfold c29
  simp -dsimp -implicitDefEqProofs only [ev_t, ev_k, get_cons, get_nil, put_cons, put_nil, putd_some, keepOnly_nil, keepOnly_cons, optT_some, boolT_bool, onT_true, t_mv, t_bin, t_fa, t_load, t_box, t_guard, t_nil, w_ops, w_seq, then_normal, slots0, V.copy, V.cells, V.boxable, v_eql, v_fa_ptr, v_pack1, ldK_some, v_load_ptr, box_at, box_at0, List.length_append, List.append_assoc, List.cons_append, List.nil_append, List.drop_zero, List.take_succ_cons, List.take_zero, List.length_cons, List.length_nil, List.getElem?_cons_zero, List.getElem?_cons_succ, Nat.zero_add, Nat.reduceLeDiff, eq_self, reduceIte, reduceCtorEq, List.contains_cons, List.contains_nil, List.map_cons, List.map_nil, Nat.reduceBEq, Nat.reduceLT, Nat.reduceEqDiff, Bool.or_false, Bool.or_true, Bool.false_eq_true, bq_true, Nat.reduceAdd, vex_eq]
  refine iteT_intro (fun h1 => ?_) (fun h1 => ?_)
  · simp -dsimp -implicitDefEqProofs only [ev_t, ev_k, get_cons, get_nil, put_cons, put_nil, putd_some, optT_some, boolT_bool, iteT_true, t_mv, t_pick, t_bin, t_fa, t_load, t_guard, V.copy, v_eql, v_pick, v_fa_ptr, v_pack1, ldK_some, v_load_ptr, box_at, box_at0, List.drop_succ_cons, List.drop_zero, List.take_succ_cons, List.take_zero, List.length_cons, List.length_nil, List.getElem?_cons_zero, List.getElem?_cons_succ, Nat.zero_add, Nat.reduceLeDiff, cond_true, eq_self, reduceIte, Nat.reduceLT, Nat.reduceEqDiff, bq_true, Nat.reduceAdd]
    refine iteT_intro (fun h2 => ?_) (fun h2 => ?_)
    · simp -dsimp -implicitDefEqProofs only [ev_t, ev_k, get_cons, get_nil, put_cons, put_nil, putd_some, optT_some, boolT_bool, iteT_true, t_mv, t_pick, t_bin, t_fa, t_load, t_guard, V.copy, v_seql, v_pick, v_fa_ptr, v_pack1, ldK_some, v_load_ptr, box_at, box_at0, List.drop_succ_cons, List.drop_zero, List.take_succ_cons, List.take_zero, List.length_cons, List.length_nil, List.getElem?_cons_zero, List.getElem?_cons_succ, Nat.zero_add, Nat.reduceLeDiff, cond_true, eq_self, reduceIte, Nat.reduceLT, Nat.reduceEqDiff, bq_true, Nat.reduceAdd]
      refine iteT_intro (fun h3 => ?_) (fun h3 => ?_)
      · simp -dsimp -implicitDefEqProofs only [ev_t, ev_k, get_cons, get_nil, put_cons, put_nil, putd_some, optT_some, boolT_bool, iteT_true, t_fa, t_load, t_call, t_guard, V.copy, V.lend, v_fa_ptr, v_pack1, ldK_some, v_load_ptr, box_at, box_at0, List.drop_succ_cons, List.drop_zero, List.take_succ_cons, List.take_zero, List.length_cons, List.length_nil, List.getElem?_cons_zero, List.getElem?_cons_succ, Nat.zero_add, Nat.reduceLeDiff, eq_self, reduceIte, List.map_cons, List.map_nil, Nat.reduceLT, Nat.reduceEqDiff, bq_true, Nat.reduceAdd]
        refine fun_ret (hE _) ?_
        simp -dsimp -implicitDefEqProofs only [ev_t, ev_k, get_cons, get_nil, put_cons, put_nil, putd_some, keepOnly_nil, keepOnly_cons, optT_some, t_mv, t_pick, t_nil, w_ret, then_normal, V.copy, v_pick, cond_true, eq_self, reduceIte, List.contains_cons, List.contains_nil, Nat.reduceBEq, Nat.reduceLT, Nat.reduceEqDiff, Bool.or_false, Bool.false_eq_true]
        exact fin_ret hb rfl rfl List.take_left ⟨by rw [hq, h1, h2, h3]; rfl, rfl⟩
      · simp -dsimp -implicitDefEqProofs only [ev_t, ev_k, get_cons, get_nil, put_cons, put_nil, putd_some, keepOnly_nil, keepOnly_cons, optT_some, boolT_bool, iteT_false, t_mv, t_pick, t_guard, t_nil, w_ret, then_normal, V.copy, v_pick_jf, eq_self, Bool.not_true, reduceIte, List.contains_cons, List.contains_nil, Nat.reduceBEq, Nat.reduceLT, Nat.reduceEqDiff, Bool.or_false, Bool.false_eq_true, bq_true]
        exact fin_ret hb rfl rfl List.take_left ⟨by rw [hq, h1, h2, h3]; rfl, rfl⟩
    · simp -dsimp -implicitDefEqProofs only [ev_t, ev_k, get_cons, get_nil, put_cons, put_nil, putd_some, keepOnly_nil, keepOnly_cons, optT_some, boolT_bool, iteT_false, t_mv, t_pick, t_guard, t_nil, w_ret, then_normal, V.copy, v_pick_jf, eq_self, Bool.not_true, reduceIte, List.contains_cons, List.contains_nil, Nat.reduceBEq, Nat.reduceLT, Nat.reduceEqDiff, Bool.or_false, Bool.false_eq_true, bq_true]
      exact fin_ret hb rfl rfl List.take_left ⟨by rw [hq, h1, h2]; rfl, rfl⟩
  · simp -dsimp -implicitDefEqProofs only [ev_t, ev_k, get_cons, get_nil, put_cons, put_nil, putd_some, keepOnly_nil, keepOnly_cons, optT_some, boolT_bool, iteT_false, t_mv, t_pick, t_guard, t_nil, w_ret, then_normal, V.copy, v_pick_jf, eq_self, Bool.not_true, reduceIte, List.contains_cons, List.contains_nil, Nat.reduceBEq, Nat.reduceLT, Nat.reduceEqDiff, Bool.or_false, Bool.false_eq_true, bq_true]
    exact fin_ret hb rfl rfl List.take_left ⟨by rw [hq, h1]; rfl, rfl⟩

theorem rsame_fun (a : Ex) : ∀ (b : Ex) (σ : List (List V)), Fun G 30 [vex a, vex b] σ (RetV (vbool (sameE a b)) σ) := by
  induction a using Ex.ind2 with
  | h a ih =>
  intro b σ
  refine fun_code Tryd.func30 k30 (by simp only [vex_eq]; rfl) fun hb hw => ?_
  have hq := sameE_eq a b
  have h0 := hw 0 (by simp)
  simp only [List.getElem_cons_zero, vex_eq] at h0
  have hm := wf_len (wf_cell h0 3 (by simp))
  simp only [List.length_map] at hm
  have out : ∀ (σ' l : List (List V)) (b1 : Bool), sameE a b = b1 → σ' = σ ++ l → fin σ.length rs30 (RetV (vbool (sameE a b)) σ) .ret [(4, .d (.lit (.bool b1)))] σ' := fun σ' l b1 h e => by
    subst e; exact fin_ret hb rfl rfl List.take_left ⟨by rw [h]; rfl, rfl⟩
  unfold c30
  simp -dsimp -implicitDefEqProofs only [ev_t, ev_k, get_cons, get_nil, put_cons, put_nil, putd_some, keepOnly_nil, keepOnly_cons, optT_some, boolT_bool, onT_true, t_mv, t_bin, t_fa, t_load, t_box, t_guard, t_nil, w_ops, w_seq, then_normal, slots0, V.copy, V.cells, V.boxable, v_neq, v_fa_ptr, v_pack1, ldK_some, v_load_ptr, box_at, box_at0, List.length_append, List.append_assoc, List.cons_append, List.nil_append, List.drop_zero, List.take_succ_cons, List.take_zero, List.length_cons, List.length_nil, List.getElem?_cons_zero, List.getElem?_cons_succ, Nat.zero_add, Nat.reduceLeDiff, eq_self, reduceIte, reduceCtorEq, List.contains_cons, List.contains_nil, List.map_cons, List.map_nil, Nat.reduceBEq, Nat.reduceLT, Nat.reduceEqDiff, Bool.or_false, Bool.or_true, Bool.false_eq_true, bq_false, Bool.not_not, Nat.reduceAdd, vex_eq]
  refine iteT_intro (fun h1 => ?_) (fun h1 => ?_)
  · simp -dsimp -implicitDefEqProofs only [ev_t, ev_k, get_cons, get_nil, put_cons, put_nil, putd_some, optT_some, boolT_bool, iteT_true, t_mv, t_pick, t_bin, t_fa, t_load, t_guard, V.copy, v_neq, v_pick, v_fa_ptr, v_pack1, ldK_some, v_load_ptr, box_at, box_at0, List.drop_succ_cons, List.drop_zero, List.take_succ_cons, List.take_zero, List.length_cons, List.length_nil, List.getElem?_cons_zero, List.getElem?_cons_succ, Nat.zero_add, Nat.reduceLeDiff, cond_false, eq_self, Bool.not_false, reduceIte, Nat.reduceLT, Nat.reduceEqDiff, bq_false, Bool.not_not, Nat.reduceAdd]
    refine iteT_intro (fun h2 => ?_) (fun h2 => ?_)
    · simp -dsimp -implicitDefEqProofs only [ev_t, ev_k, get_cons, get_nil, put_cons, put_nil, putd_some, optT_some, boolT_bool, iteT_true, t_mv, t_pick, t_bin, t_fa, t_load, t_guard, V.copy, v_sneq, v_pick, v_fa_ptr, v_pack1, ldK_some, v_load_ptr, box_at, box_at0, List.drop_succ_cons, List.drop_zero, List.take_succ_cons, List.take_zero, List.length_cons, List.length_nil, List.getElem?_cons_zero, List.getElem?_cons_succ, Nat.zero_add, Nat.reduceLeDiff, cond_false, eq_self, Bool.not_false, reduceIte, Nat.reduceLT, Nat.reduceEqDiff, bq_false, Bool.not_not, Nat.reduceAdd]
      refine iteT_intro (fun h3 => ?_) (fun h3 => ?_)
      · simp -dsimp -implicitDefEqProofs only [ev_t, ev_k, get_cons, get_nil, put_cons, put_nil, putd_some, keepOnly_nil, keepOnly_cons, optT_some, boolT_bool, iteT_true, t_mv, t_pick, t_bin, t_fa, t_len, t_load, t_guard, t_nil, w_ops, w_seq, w_cond, w_block, w_ret, then_normal, V.copy, v_len_d, v_neq, v_pick, v_fa_ptr, v_pack1, ldK_some, v_load_ptr, box_at, box_at0, List.length_map, List.drop_succ_cons, List.drop_zero, List.take_succ_cons, List.take_zero, List.length_cons, List.length_nil, List.getElem?_cons_zero, List.getElem?_cons_succ, Nat.zero_add, Nat.reduceLeDiff, cond_false, eq_self, Bool.not_false, reduceIte, List.contains_cons, List.contains_nil, Nat.reduceBEq, Nat.reduceLT, Nat.reduceEqDiff, Bool.or_false, Bool.or_true, Bool.false_eq_true, bq_false, Nat.reduceAdd, Int.ofNat_inj]
        refine iteT_intro (fun h4 => ?_) (fun h4 => ?_)
        · simp -dsimp -implicitDefEqProofs only [ev_k, put_cons, put_nil, putd_some, keepOnly_nil, keepOnly_cons, t_mv, t_nil, w_ops, w_seq, w_block, w_ret, then_normal, then_ret, V.copy, eq_self, reduceIte, List.contains_cons, List.contains_nil, Nat.reduceBEq, Nat.reduceLT, Nat.reduceEqDiff, Bool.or_false, Bool.false_eq_true]
          exact out _ _ _ (by rw [hq, sameL_len (by simpa using h4)]; simp) rfl
        · simp -dsimp -implicitDefEqProofs only [ev_k, put_cons, put_nil, putd_some, keepOnly_nil, keepOnly_cons, t_mv, t_nil, w_skip, w_ops, w_seq, w_block, w_ret, then_normal, V.copy, eq_self, reduceIte, List.contains_cons, List.contains_nil, Nat.reduceBEq, Nat.reduceLT, Nat.reduceEqDiff, Bool.or_false, Bool.or_true, Bool.false_eq_true]
          have h4 : a.args.length = b.args.length := by simpa using h4
          generalize hbx : [[V.d (dint a.op), V.d (dint a.num), V.d (dstr a.name), V.d (D.sl (List.map dex a.args))], [V.d (dint b.op), V.d (dint b.num), V.d (dstr b.name), V.d (D.sl (List.map dex b.args))]] = bx at out ⊢
          refine awp_for (R := fun (j : Nat) ρ σ' => ρ = [(2, .ptr σ.length 0), (3, .ptr (σ.length + 1) 0), (5, vint .i64 j)] ∧ σ' = σ ++ bx ∧ sameL a.args b.args = sameL (a.args.drop j) (b.args.drop j)) a.args.length ⟨rfl, rfl, by simp⟩ ?_ _
          rintro j ρ' σ' hj ⟨rfl, rfl, hrec⟩
          subst hbx
          by_cases hlt : j < a.args.length
          · have hlt' : j < b.args.length := by omega
            simp -dsimp -implicitDefEqProofs only [ev_t, ev_k, get_cons, get_nil, put_cons, put_nil, putd_some, keepOnly_nil, keepOnly_cons, optT_some, boolT_bool, iteT_true, t_mv, c_mv, t_bin, t_fa, c_fa, c_ia, t_len, t_load, c_load, t_nil, c_call, w_skip, w_ops, w_draw, w_seq, w_cond, w_block, w_ret, then_normal, V.copy, V.lend, V.lend1, v_len_d, v_rows_d, v_lss, v_fa_ptr, iaK_some, v_ia_nat, v_pack1, v_packA, v_load_row, ldK_some, v_load_ptr, box_at, box_at0, Option.bind_some, Option.map_some, List.getElem?_map, List.length_map, List.drop_succ_cons, List.drop_zero, List.take_succ_cons, List.take_zero, List.length_cons, List.length_nil, List.getElem?_cons_zero, List.getElem?_cons_succ, Nat.zero_add, Nat.reduceLeDiff, true_and, eq_self, reduceIte, List.contains_cons, List.contains_nil, List.map_cons, List.map_nil, Nat.reduceBEq, Nat.reduceLT, Nat.reduceEqDiff, Bool.or_false, Bool.or_true, Bool.false_eq_true, Nat.reduceAdd, Int.ofNat_lt, hlt, decide_true, List.getElem?_eq_getElem hlt, List.getElem?_eq_getElem hlt', dex_eq]
            refine calm_ret (by simpa only [vex_eq] using ih _ (List.getElem_mem hlt) _ _) ?_
            simp -dsimp -implicitDefEqProofs only [ev_t, ev_k, get_cons, get_nil, put_cons, put_nil, putd_some, keepOnly_nil, keepOnly_cons, optT_some, boolT_bool, t_mv, t_bin, c_un, t_nil, c_nil, w_ops, w_seq, w_cond, w_ret, then_normal, V.copy, v_not, eq_self, reduceIte, List.contains_cons, List.contains_nil, Nat.reduceBEq, Nat.reduceLT, Nat.reduceEqDiff, Bool.or_false, Bool.or_true, Bool.false_eq_true]
            refine iteT_intro (fun hs => ?_) (fun hs => ?_)
            · simp -dsimp -implicitDefEqProofs only [ev_t, ev_k, put_cons, put_nil, putd_some, keepOnly_nil, keepOnly_cons, t_mv, t_bin, t_nil, w_ops, w_seq, w_ret, then_normal, then_ret, blk_ret, V.copy, eq_self, reduceIte, List.contains_cons, List.contains_nil, Nat.reduceBEq, Nat.reduceLT, Nat.reduceEqDiff, Bool.or_false, Bool.false_eq_true]
              exact out _ _ _ (by rw [hq, hrec, sameL_step hlt hlt']; simp_all) rfl
            · simp -dsimp -implicitDefEqProofs only [ev_t, ev_k, get_cons, get_nil, put_cons, put_nil, putd_some, keepOnly_nil, keepOnly_cons, optT_some, t_mv, t_bin, t_nil, w_skip, w_ops, w_seq, w_ret, then_normal, blk_normal, V.copy, v_add, eq_self, reduceIte, List.contains_cons, List.contains_nil, Nat.reduceBEq, Nat.reduceLT, Nat.reduceEqDiff, Bool.or_false, Bool.or_true, Bool.false_eq_true, wrap_nat hlt hm]
              refine ⟨hlt, Nxt.same (by simp) (boxesBelow_app hb rfl) ?_ ?_⟩
              · simp [slotsBelow, V.under]
              · exact ⟨rfl, rfl, by rw [hrec, sameL_step hlt hlt']; simp_all⟩
          · simp -dsimp -implicitDefEqProofs only [ev_t, ev_k, get_cons, get_nil, put_cons, put_nil, putd_some, keepOnly_nil, keepOnly_cons, optT_some, boolT_bool, iteT_false, t_mv, t_bin, t_fa, c_fa, t_len, t_load, t_nil, w_ops, w_draw, w_seq, w_cond, w_block, w_exit, w_ret, then_normal, then_exit, blk_exit, V.copy, v_len_d, v_lss, v_fa_ptr, v_pack1, ldK_some, v_load_ptr, box_at0, List.length_map, List.drop_succ_cons, List.drop_zero, List.take_succ_cons, List.take_zero, List.length_cons, List.length_nil, List.getElem?_cons_zero, Nat.zero_add, Nat.reduceLeDiff, eq_self, reduceIte, List.contains_cons, List.contains_nil, Nat.reduceBEq, Nat.reduceLT, Nat.reduceEqDiff, Bool.or_false, Bool.or_true, Bool.false_eq_true, Nat.reduceAdd, Int.ofNat_lt, hlt, decide_false]
            exact out _ _ _ (by rw [hq, hrec, List.drop_of_length_le (by omega), List.drop_of_length_le (by omega)]; simp_all [sameL]) rfl
      · simp -dsimp -implicitDefEqProofs only [ev_t, ev_k, get_cons, get_nil, put_cons, put_nil, putd_some, keepOnly_nil, keepOnly_cons, optT_some, boolT_bool, iteT_true, iteT_false, t_mv, t_pick, t_guard, t_nil, w_ops, w_seq, w_cond, w_block, w_ret, then_normal, then_ret, V.copy, v_pick_tj, eq_self, Bool.not_true, Bool.not_false, reduceIte, List.contains_cons, List.contains_nil, Nat.reduceBEq, Nat.reduceLT, Nat.reduceEqDiff, Bool.or_false, Bool.or_true, Bool.false_eq_true, bq_false]
        exact out _ _ _ (by rw [hq]; simp_all) rfl
    · simp -dsimp -implicitDefEqProofs only [ev_t, ev_k, get_cons, get_nil, put_cons, put_nil, putd_some, keepOnly_nil, keepOnly_cons, optT_some, boolT_bool, iteT_true, iteT_false, t_mv, t_pick, t_guard, t_nil, w_ops, w_seq, w_cond, w_block, w_ret, then_normal, then_ret, V.copy, v_pick_tj, eq_self, Bool.not_true, Bool.not_false, reduceIte, List.contains_cons, List.contains_nil, Nat.reduceBEq, Nat.reduceLT, Nat.reduceEqDiff, Bool.or_false, Bool.or_true, Bool.false_eq_true, bq_false]
      exact out _ _ _ (by rw [hq]; simp_all) rfl
  · simp -dsimp -implicitDefEqProofs only [ev_t, ev_k, get_cons, get_nil, put_cons, put_nil, putd_some, keepOnly_nil, keepOnly_cons, optT_some, boolT_bool, iteT_true, iteT_false, t_mv, t_pick, t_guard, t_nil, w_ops, w_seq, w_cond, w_block, w_ret, then_normal, then_ret, V.copy, v_pick_tj, eq_self, Bool.not_true, Bool.not_false, reduceIte, List.contains_cons, List.contains_nil, Nat.reduceBEq, Nat.reduceLT, Nat.reduceEqDiff, Bool.or_false, Bool.or_true, Bool.false_eq_true, bq_false]
    exact out _ _ _ (by rw [hq]; simp_all) rfl
end Go.Proofs.YtibfoafepjggjaaDoor
