/-
  The reference's Subst, in the plain world.
-/
import Derived.Test.YtibfoafepjggjaaDoorNew8
import Derived.Test.YtibfoafepjggjaaDoorK
namespace Go.Proofs.YtibfoafepjggjaaDoor
open Go.RowKit

theorem Ex.ind3 {P : Ex → Prop} (h : ∀ e : Ex, (∀ a, a ∈ e.args → P a) → P e) : ∀ e, P e := Ex.ind fun o n s l ih => h (.mk o n s l) ih
theorem subE_eq (nm : ByteArray) (b e : Ex) : subE nm b e = if (e.op == 2 && decide (e.name = nm)) then b else .mk e.op e.num e.name (e.args.map (subE nm b)) := by
  cases e; rw [subE, subsE_map]; rfl
theorem args_size {e a : Ex} (h : a ∈ e.args) : esize a ≤ esize e := by
  cases e with
  | mk o n s l =>
  have H : ∀ (l : List Ex), a ∈ l → esize a ≤ esizes l := by
    intro l
    induction l with
    | nil => intro h; cases h
    | cons x r ih =>
      intro h
      simp only [esizes]
      rcases List.mem_cons.1 h with rfl | h
      · omega
      · have := ih h; omega
  have := H l h
  simp only [esize]; omega
theorem rsubst_fun (nm : ByteArray) (b : Ex) (e : Ex) : esize e ≤ 1000000 → ∀ (σ : List (List V)), Fun G 31 [vex e, .d (dstr nm), vex b] σ (RetV (vex (subE nm b e)) σ) := by
  induction e using Ex.ind3 with
  | h e ih =>
  intro hs σ
  refine fun_code Tryd.func31 k31 (by simp only [vex_eq]; rfl) fun hb hw => ?_
  have h0 := hw 0 (by simp)
  simp only [List.getElem_cons_zero, vex_eq] at h0
  have hm := wf_len (wf_cell h0 3 (by simp))
  simp only [List.length_map] at hm
  have hq := subE_eq nm b e
  have hln : e.args.length ≤ 1000000 := by
    have := len_le e.args
    have h2 : esizes e.args ≤ esize e := by cases e; simp only [esize, Ex.args]; omega
    omega
  unfold c31
  simp -dsimp -implicitDefEqProofs only [ev_t, ev_k, get_cons, get_nil, put_cons, put_nil, putd_some, keepOnly_nil, keepOnly_cons, optT_some, boolT_bool, onT_true, t_mv, t_bin, t_fa, t_load, t_new, t_box, t_guard, t_nil, w_ops, w_seq, then_normal, slots0, V.copy, V.cells, V.boxable, v_eql, v_fa_ptr, v_pack1, ldK_some, v_load_ptr, box_at0, List.length_append, List.append_assoc, List.cons_append, List.nil_append, List.drop_zero, List.take_succ_cons, List.take_zero, List.length_cons, List.length_nil, List.getElem?_cons_zero, Nat.zero_add, Nat.reduceLeDiff, eq_self, reduceIte, reduceCtorEq, List.contains_cons, List.contains_nil, List.map_cons, List.map_nil, Nat.reduceBEq, Nat.reduceLT, Nat.reduceEqDiff, Bool.or_false, Bool.or_true, Bool.false_eq_true, bq_true, Nat.reduceAdd, vex_eq]
  refine iteT_intro (fun h1 => ?a) (fun h1 => ?b)
  case' a => (simp -dsimp -implicitDefEqProofs only [ev_t, ev_k, get_cons, get_nil, put_cons, put_nil, putd_some, keepOnly_nil, keepOnly_cons, optT_some, boolT_bool, iteT_true, t_mv, t_pick, t_bin, t_fa, t_load, t_guard, t_nil, w_ops, w_seq, w_cond, then_normal, V.copy, v_seql, v_pick, v_fa_ptr, v_pack1, ldK_some, v_load_ptr, box_at0, List.drop_succ_cons, List.drop_zero, List.take_succ_cons, List.take_zero, List.length_cons, List.length_nil, List.getElem?_cons_zero, Nat.zero_add, Nat.reduceLeDiff, cond_true, eq_self, reduceIte, List.contains_cons, List.contains_nil, Nat.reduceBEq, Nat.reduceLT, Nat.reduceEqDiff, Bool.or_false, Bool.or_true, Bool.false_eq_true, bq_true, Nat.reduceAdd, vex_eq]; refine iteT_intro (fun h2 => ?c) (fun h2 => ?d))
  case c => (simp -dsimp -implicitDefEqProofs only [ev_t, get_cons, get_nil, put_cons, put_nil, putd_some, keepOnly_nil, keepOnly_cons, optT_some, ptrT_ptr, bxT_some, onT_true, t_fa, t_load, t_sto, t_nil, w_ops, w_seq, w_ret, then_normal, then_ret, V.copy, V.cells, V.boxable, v_packA, ldK_some, v_load_ptr, box_at, set_at, over, List.cons_append, List.nil_append, List.drop_succ_cons, List.drop_zero, List.take_succ_cons, List.take_zero, List.length_cons, List.length_nil, List.getElem?_cons_zero, List.getElem?_cons_succ, List.set_cons_zero, List.set_cons_succ, Nat.zero_add, Nat.reduceLeDiff, and_true, eq_self, reduceIte, List.contains_cons, List.contains_nil, List.map_cons, List.map_nil, Nat.reduceBEq, Nat.reduceLT, Nat.reduceEqDiff, Bool.or_false, Bool.false_eq_true, Nat.reduceAdd, vex_eq]; exact fin_ret (v := vex b) hb (by rw [vex_eq]; simp [rs31, resV, res1, get_cons, V.copy, V.lend, V.lend1, v_packA, ldK_some, v_load_ptr, Option.map_some, List.length_append, List.drop_zero, List.take_succ_cons, List.length_cons, List.length_nil, Nat.zero_add, eq_self, reduceIte, List.map_cons, List.map_nil, Nat.reduceAdd]) (by rw [vex_eq]; rfl) List.take_left ⟨by rw [hq, if_pos (by simp_all), vex_eq], rfl⟩)
  all_goals (have hb2 : (e.op == 2 && decide (e.name = nm)) = false := by simp_all)
  all_goals (rw [hb2, if_neg (by simp)] at hq)
  all_goals simp -dsimp -implicitDefEqProofs only [ev_t, ev_k, get_cons, get_nil, put_cons, put_nil, putd_some, keepOnly_nil, keepOnly_cons, optT_some, ptrT_ptr, bxT_some, boolT_bool, iteT_false, onT_true, t_mv, t_pick, t_fa, t_load, t_bld, t_new, t_sto, t_guard, t_nil, w_skip, w_ops, w_seq, w_cond, w_block, then_normal, V.copy, V.cells, V.boxable, v_pick_jf, v_fa_ptr, v_pack1, ldK_some, v_load_ptr, box_at, box_at0, set_at, over, bldV, Option.map_some, List.length_append, List.append_assoc, List.cons_append, List.nil_append, List.drop_succ_cons, List.drop_zero, List.take_succ_cons, List.take_zero, List.length_cons, List.length_nil, List.getElem?_cons_zero, List.getElem?_cons_succ, List.set_cons_zero, List.set_cons_succ, Nat.zero_add, Nat.reduceLeDiff, and_true, eq_self, Bool.not_true, reduceIte, List.contains_cons, List.contains_nil, List.map_cons, List.map_nil, Nat.reduceBEq, Nat.reduceLT, Nat.reduceEqDiff, Bool.or_false, Bool.or_true, Bool.false_eq_true, bq_true, Nat.reduceAdd, vex_eq]
  all_goals (refine awp_forU (R := fun (j : Nat) ρ σ' => ρ = [(1, .d (dstr nm)), (3, .ptr σ.length 0), (5, .ptr (σ.length + 1) 0), (6, .ptr (σ.length + 2) 0), (7, .ptr (σ.length + 3) 0), (8, vint .i64 j)] ∧ σ' = σ ++ [[.d (dint e.op), .d (dint e.num), .d (dstr e.name), .d (.sl (e.args.map dex))], [.d (dint b.op), .d (dint b.num), .d (dstr b.name), .d (.sl (b.args.map dex))], [.d (dint 0), .d (dint 0), .d (dstr ⟨#[]⟩), .nil], [.d (dint e.op), .d (dint e.num), .d (dstr e.name), .own 24 4 ((e.args.take j).map fun a => dex (subE nm b a))]]) e.args.length (.step (i := σ.length + 3) (off := 3) (cs := [.d (dint e.op), .d (dint e.num), .d (dstr e.name), .nil]) 24 4 (by simp only [box_at, List.getElem?_cons_succ, List.getElem?_cons_zero]) rfl (.refl _)) ⟨rfl, by simp []⟩ ?_ _)
  all_goals (rintro j ρ' σ' hj ⟨rfl, rfl⟩)
  all_goals (by_cases hlt : j < e.args.length)
  case pos =>
    simp -dsimp -implicitDefEqProofs only [w_drawa, ev_t, get_cons, get_nil, put_cons, put_nil, putd_some, keepOnly_nil, keepOnly_cons, optT_some, boolT_bool, iteT_true, t_mv, t_bin, t_fa, t_len, t_load, t_nil, w_skip, w_ops, w_seq, w_cond, w_block, then_normal, V.copy, v_len_d, v_lss, v_fa_ptr, v_pack1, ldK_some, v_load_ptr, box_at0, List.length_map, List.drop_succ_cons, List.drop_zero, List.take_succ_cons, List.take_zero, List.length_cons, List.length_nil, List.getElem?_cons_zero, Nat.zero_add, Nat.reduceLeDiff, true_and, eq_self, reduceIte, List.contains_cons, List.contains_nil, Nat.reduceBEq, Nat.reduceLT, Nat.reduceEqDiff, Bool.or_false, Bool.or_true, Bool.false_eq_true, Nat.reduceAdd, Int.ofNat_lt, hlt, decide_true]
    refine app_at (cs := [.d (dint e.op), .d (dint e.num), .d (dstr e.name), .own 24 4 ((e.args.take j).map fun a => dex (subE nm b a))]) ⟨σ.length + 3, 3, 24, 4, (e.args.take j).map fun a => dex (subE nm b a)⟩ (by simp only [box_at, List.getElem?_cons_succ, List.getElem?_cons_zero]) rfl ?_
    simp -dsimp -implicitDefEqProofs only [a_mv, a_fa, a_ia, a_load, a_call, a_ldo, ev_t, get_cons, get_nil, put_cons, put_nil, putd_some, optT_some, onT_true, V.copy, V.lend, V.lend1, v_rows_d, v_fa_ptr, iaK_some, v_ia_nat, v_pack1, v_packA, v_load_row, ldK_some, v_load_ptr, box_at, box_at0, set_at, Option.bind_some, Option.map_some, List.getElem?_map, List.drop_succ_cons, List.drop_zero, List.take_succ_cons, List.take_zero, List.length_cons, List.length_nil, List.getElem?_cons_zero, List.getElem?_cons_succ, List.set_cons_zero, List.set_cons_succ, Nat.zero_add, Nat.reduceLeDiff, eq_self, reduceIte, List.map_cons, List.map_nil, Nat.reduceLT, Nat.reduceEqDiff, Nat.reduceAdd, dex_eq e.args[j], List.getElem?_eq_getElem hlt]
    have hsz := args_size (List.getElem_mem hlt)
    refine calm_ret2 (v := vex (subE nm b e.args[j])) (fun σ => by simpa only [vex_eq] using ih _ (List.getElem_mem hlt) (by omega) σ) ?_
    simp -dsimp -implicitDefEqProofs only [a_mks, a_app, ev_t, get_cons, get_nil, put_cons, put_nil, putd_some, rwT_some, onT_true, V.copy, V.cells, v_rows_d, rowsOf, plains, V.plain, List.length_map, List.length_cons, List.length_nil, Nat.zero_add, true_and, eq_self, reduceIte, List.map_cons, List.map_nil, Nat.reduceBEq, Nat.reduceLT, Nat.reduceEqDiff, Nat.reduceAdd, List.all_cons, List.all_nil, Bool.and_true, vex_eq]
    refine onT_intro (by rw [List.length_take]; omega) ?_
    simp -dsimp -implicitDefEqProofs only [a_fa, a_stoo, a_nil, ev_t, ev_k, get_cons, get_nil, put_cons, put_nil, putd_some, keepOnly_nil, keepOnly_cons, optT_some, onT_true, t_mv, t_bin, t_load, t_nil, w_ops, w_seq, then_normal, blk_normal, V.copy, v_add, v_fa_ptr, set_at, over, List.cons_append, List.nil_append, List.drop_succ_cons, List.drop_zero, List.take_succ_cons, List.take_zero, List.length_cons, List.length_nil, List.set_cons_zero, List.set_cons_succ, Nat.zero_add, eq_self, reduceIte, List.contains_cons, List.contains_nil, Nat.reduceBEq, Nat.reduceLT, Nat.reduceEqDiff, Bool.or_false, Bool.or_true, Bool.false_eq_true, Nat.reduceAdd, wrap_nat hlt hm]
    refine ⟨hlt, Nxt.same (by simp) (boxesBelow_app hb rfl) ?_ ?_⟩
    · simp [slotsBelow, V.under]
    · refine ⟨rfl, ?_⟩
      have ht : e.args.take (j + 1) = e.args.take j ++ [e.args[j]] := by rw [List.take_add_one, List.getElem?_eq_getElem hlt]; rfl
      rw [ht, List.map_append]
      simp only [List.map_cons, List.map_nil, dex_eq (subE nm b e.args[j])]
  case neg =>
    simp -dsimp -implicitDefEqProofs only [w_drawa, ev_t, get_cons, get_nil, put_cons, put_nil, putd_some, keepOnly_nil, keepOnly_cons, optT_some, ptrT_ptr, bxT_some, boolT_bool, iteT_false, onT_true, t_mv, t_bin, t_fa, t_len, t_load, t_sto, t_nil, w_ops, w_seq, w_cond, w_block, w_exit, w_ret, then_normal, then_exit, blk_exit, V.copy, V.cells, V.boxable, v_len_d, v_lss, v_fa_ptr, v_pack1, v_packA, ldK_some, v_load_ptr, box_at, box_at0, set_at, over, List.length_map, List.cons_append, List.nil_append, List.drop_succ_cons, List.drop_zero, List.take_succ_cons, List.take_zero, List.length_cons, List.length_nil, List.getElem?_cons_zero, List.getElem?_cons_succ, List.set_cons_zero, List.set_cons_succ, Nat.zero_add, Nat.reduceLeDiff, and_true, eq_self, reduceIte, List.contains_cons, List.contains_nil, List.map_cons, List.map_nil, Nat.reduceBEq, Nat.reduceLT, Nat.reduceEqDiff, Bool.or_false, Bool.or_true, Bool.false_eq_true, Nat.reduceAdd, Int.ofNat_lt, hlt, decide_false]
    rw [List.take_of_length_le (by omega)]
    exact fin_ret (v := vex (.mk e.op e.num e.name (e.args.map (subE nm b)))) hb (by rw [vex_eq]; simp [rs31, resV, res1, Ex.op, Ex.num, Ex.name, Ex.args, Function.comp_def, get_cons, V.copy, V.lend, V.lend1, v_packA, ldK_some, v_load_ptr, Option.map_some, List.length_append, List.drop_zero, List.take_succ_cons, List.length_cons, List.length_nil, Nat.zero_add, eq_self, reduceIte, List.map_cons, List.map_nil, Nat.reduceLT, Nat.reduceAdd]) (by rw [vex_eq]; rfl) List.take_left ⟨by rw [hq], rfl⟩
  case pos =>
    simp -dsimp -implicitDefEqProofs only [w_drawa, ev_t, get_cons, get_nil, put_cons, put_nil, putd_some, keepOnly_nil, keepOnly_cons, optT_some, boolT_bool, iteT_true, t_mv, t_bin, t_fa, t_len, t_load, t_nil, w_skip, w_ops, w_seq, w_cond, w_block, then_normal, V.copy, v_len_d, v_lss, v_fa_ptr, v_pack1, ldK_some, v_load_ptr, box_at0, List.length_map, List.drop_succ_cons, List.drop_zero, List.take_succ_cons, List.take_zero, List.length_cons, List.length_nil, List.getElem?_cons_zero, Nat.zero_add, Nat.reduceLeDiff, true_and, eq_self, reduceIte, List.contains_cons, List.contains_nil, Nat.reduceBEq, Nat.reduceLT, Nat.reduceEqDiff, Bool.or_false, Bool.or_true, Bool.false_eq_true, Nat.reduceAdd, Int.ofNat_lt, hlt, decide_true]
    refine app_at (cs := [.d (dint e.op), .d (dint e.num), .d (dstr e.name), .own 24 4 ((e.args.take j).map fun a => dex (subE nm b a))]) ⟨σ.length + 3, 3, 24, 4, (e.args.take j).map fun a => dex (subE nm b a)⟩ (by simp only [box_at, List.getElem?_cons_succ, List.getElem?_cons_zero]) rfl ?_
    simp -dsimp -implicitDefEqProofs only [a_mv, a_fa, a_ia, a_load, a_call, a_ldo, ev_t, get_cons, get_nil, put_cons, put_nil, putd_some, optT_some, onT_true, V.copy, V.lend, V.lend1, v_rows_d, v_fa_ptr, iaK_some, v_ia_nat, v_pack1, v_packA, v_load_row, ldK_some, v_load_ptr, box_at, box_at0, set_at, Option.bind_some, Option.map_some, List.getElem?_map, List.drop_succ_cons, List.drop_zero, List.take_succ_cons, List.take_zero, List.length_cons, List.length_nil, List.getElem?_cons_zero, List.getElem?_cons_succ, List.set_cons_zero, List.set_cons_succ, Nat.zero_add, Nat.reduceLeDiff, eq_self, reduceIte, List.map_cons, List.map_nil, Nat.reduceLT, Nat.reduceEqDiff, Nat.reduceAdd, dex_eq e.args[j], List.getElem?_eq_getElem hlt]
    have hsz := args_size (List.getElem_mem hlt)
    refine calm_ret2 (v := vex (subE nm b e.args[j])) (fun σ => by simpa only [vex_eq] using ih _ (List.getElem_mem hlt) (by omega) σ) ?_
    simp -dsimp -implicitDefEqProofs only [a_mks, a_app, ev_t, get_cons, get_nil, put_cons, put_nil, putd_some, rwT_some, onT_true, V.copy, V.cells, v_rows_d, rowsOf, plains, V.plain, List.length_map, List.length_cons, List.length_nil, Nat.zero_add, true_and, eq_self, reduceIte, List.map_cons, List.map_nil, Nat.reduceBEq, Nat.reduceLT, Nat.reduceEqDiff, Nat.reduceAdd, List.all_cons, List.all_nil, Bool.and_true, vex_eq]
    refine onT_intro (by rw [List.length_take]; omega) ?_
    simp -dsimp -implicitDefEqProofs only [a_fa, a_stoo, a_nil, ev_t, ev_k, get_cons, get_nil, put_cons, put_nil, putd_some, keepOnly_nil, keepOnly_cons, optT_some, onT_true, t_mv, t_bin, t_load, t_nil, w_ops, w_seq, then_normal, blk_normal, V.copy, v_add, v_fa_ptr, set_at, over, List.cons_append, List.nil_append, List.drop_succ_cons, List.drop_zero, List.take_succ_cons, List.take_zero, List.length_cons, List.length_nil, List.set_cons_zero, List.set_cons_succ, Nat.zero_add, eq_self, reduceIte, List.contains_cons, List.contains_nil, Nat.reduceBEq, Nat.reduceLT, Nat.reduceEqDiff, Bool.or_false, Bool.or_true, Bool.false_eq_true, Nat.reduceAdd, wrap_nat hlt hm]
    refine ⟨hlt, Nxt.same (by simp) (boxesBelow_app hb rfl) ?_ ?_⟩
    · simp [slotsBelow, V.under]
    · refine ⟨rfl, ?_⟩
      have ht : e.args.take (j + 1) = e.args.take j ++ [e.args[j]] := by rw [List.take_add_one, List.getElem?_eq_getElem hlt]; rfl
      rw [ht, List.map_append]
      simp only [List.map_cons, List.map_nil, dex_eq (subE nm b e.args[j])]
  case neg =>
    simp -dsimp -implicitDefEqProofs only [w_drawa, ev_t, get_cons, get_nil, put_cons, put_nil, putd_some, keepOnly_nil, keepOnly_cons, optT_some, ptrT_ptr, bxT_some, boolT_bool, iteT_false, onT_true, t_mv, t_bin, t_fa, t_len, t_load, t_sto, t_nil, w_ops, w_seq, w_cond, w_block, w_exit, w_ret, then_normal, then_exit, blk_exit, V.copy, V.cells, V.boxable, v_len_d, v_lss, v_fa_ptr, v_pack1, v_packA, ldK_some, v_load_ptr, box_at, box_at0, set_at, over, List.length_map, List.cons_append, List.nil_append, List.drop_succ_cons, List.drop_zero, List.take_succ_cons, List.take_zero, List.length_cons, List.length_nil, List.getElem?_cons_zero, List.getElem?_cons_succ, List.set_cons_zero, List.set_cons_succ, Nat.zero_add, Nat.reduceLeDiff, and_true, eq_self, reduceIte, List.contains_cons, List.contains_nil, List.map_cons, List.map_nil, Nat.reduceBEq, Nat.reduceLT, Nat.reduceEqDiff, Bool.or_false, Bool.or_true, Bool.false_eq_true, Nat.reduceAdd, Int.ofNat_lt, hlt, decide_false]
    rw [List.take_of_length_le (by omega)]
    exact fin_ret (v := vex (.mk e.op e.num e.name (e.args.map (subE nm b)))) hb (by rw [vex_eq]; simp [rs31, resV, res1, Ex.op, Ex.num, Ex.name, Ex.args, Function.comp_def, get_cons, V.copy, V.lend, V.lend1, v_packA, ldK_some, v_load_ptr, Option.map_some, List.length_append, List.drop_zero, List.take_succ_cons, List.length_cons, List.length_nil, Nat.zero_add, eq_self, reduceIte, List.map_cons, List.map_nil, Nat.reduceLT, Nat.reduceAdd]) (by rw [vex_eq]; rfl) List.take_left ⟨by rw [hq], rfl⟩
end Go.Proofs.YtibfoafepjggjaaDoor
