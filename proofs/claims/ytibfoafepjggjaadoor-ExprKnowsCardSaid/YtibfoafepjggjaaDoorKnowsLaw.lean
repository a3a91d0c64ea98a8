/-
  The law ExprKnows: its walk.
-/
import Derived.Test.YtibfoafepjggjaaDoorKnows
namespace Go.Proofs.YtibfoafepjggjaaDoor
open Go.RowKit

def dbools (l : List Bool) : D := .sl (l.map fun b => [.lit (.bool b)])
/-- The signals that the law makes of the names without a mark. -/
def envTo (N : List ByteArray) (ms : List Bool) : Nat → List Sig
  | 0 => []
  | j + 1 => envTo N ms j ++ (if ms.getD j false = true then [] else [⟨N.getD j ⟨#[]⟩, 3 + j⟩])
theorem envTo_len (N : List ByteArray) (ms : List Bool) : ∀ j, (envTo N ms j).length ≤ j
  | 0 => by simp [envTo]
  | j + 1 => by
    have := envTo_len N ms j
    simp only [envTo, List.length_append]
    split <;> simp <;> omega
theorem find_some (l : List Sig) (s : ByteArray) : (findS l s).isSome = l.any fun x => decide (x.name = s) := by
  induction l with
  | nil => rfl
  | cons a r ih =>
    simp only [findS, List.any_cons]
    split
    · rename_i h; simp [h]
    · rename_i h; simp [h, ih]
/-- Does every name of N have a signal? -/
def allHave (N : List ByteArray) (env : List Sig) : Bool := N.all fun s => env.any fun x => decide (x.name = s)
theorem known_all (env : List Sig) (e : Ex) : knownB env e = allHave (namesOf [2] e ++ (namesOf [3, 24] e).map fun a => elemName a 0) env := by
  simp only [knownB, allHave, find_some, List.all_append, List.all_map]; rfl
theorem names_len (ops : List Int) (e : Ex) : (namesOf ops e).length ≤ esize e := by
  have hA : ∀ (x : List ByteArray), (walkE (nextName ops) e x).1.length ≤ x.length + esize e := by
    induction e using Ex.ind with
    | h o m s l ih =>
    intro x
    have hL : ∀ (r : List Ex), (∀ a, a ∈ r → a ∈ l) → ∀ y : List ByteArray, (walkL (nextName ops) r y).1.length ≤ y.length + esizes r := by
      intro r
      induction r with
      | nil => intro _ y; simp [walkL, esizes]
      | cons a r ihr =>
        intro hm y
        simp only [walkL, esizes]
        have h1 := ih a (hm a (by simp)) y
        have h2 := ihr (fun x hx => hm x (by simp [hx]))
        split
        · have := h2 (walkE (nextName ops) a y).1; omega
        · simp only []; omega
    simp only [walkE, esize, nextName, if_true]
    have h3 : (addName ops x o s).length ≤ x.length + 1 := by
      unfold addName; split <;> simp
    have h4 := hL l (fun _ h => h) (addName ops x o s)
    simp only [Ex.op, Ex.name] at *
    omega
  have := hA []
  simpa [namesOf] using this
theorem names_small {e : Ex} (h : validE e = 0) : ∀ s, s ∈ namesOf [3, 24] e → s.size ≤ 1000 := fun s hs => by
  have := nameB_size (names_ok e (validE_err h) [] (by simp) s hs)
  omega
theorem nodeErr_bd (o m : Int) (s : ByteArray) (k : Nat) : 0 ≤ nodeErr o m s k ∧ nodeErr o m s k ≤ 7 := by
  unfold nodeErr
  repeat' split
  all_goals omega
theorem errE_bd (e : Ex) : 0 ≤ errE e ∧ errE e ≤ 7 := by
  induction e using Ex.ind with
  | h o m s l ih =>
  have hL : ∀ (r : List Ex), (∀ a, a ∈ r → a ∈ l) → 0 ≤ errL r ∧ errL r ≤ 7 := by
    intro r
    induction r with
    | nil => intro _; simp [errL]
    | cons a r ihr =>
      intro hm
      have h1 := ih a (hm a (by simp))
      have h2 := ihr (fun x hx => hm x (by simp [hx]))
      simp only [errL]
      split <;> omega
  have h1 := nodeErr_bd o m s l.length
  have h2 := hL l (fun _ h => h)
  simp only [errE]
  split <;> omega
theorem valid_fits (e : Ex) : Fits (.int .i64 (validE e)) := by
  have h : 0 ≤ validE e ∧ validE e ≤ 7 := by
    have := errE_bd e
    unfold validE
    split <;> omega
  generalize validE e = y at h
  simp only [Fits, IntKind.min, IntKind.max, IntKind.signed, IntKind.bits, if_true]
  omega
theorem fun_rvalid (e : Ex) (hs : esize e ≤ 1000000) (hd : edepth e ≤ 999999) (σ : List (List V)) : Fun G 23 [vex e] σ (RetV (.d (dint (validE e))) σ) :=
  fun_of1 Tryd.func23 (by kernel_rfl) (by kernel_rfl) (valid_fits e) fun M bm w v hG hM hr => by
    have := rvalid_any e w v (exval_of hM hr) hs hd
    rwa [rvalid_eq e hs] at this
theorem exprKnows_fun (e : Ex) (ms : List Bool) : Fun G 5 [vex e, .d (dbools ms)] [] (RetV (.d (.lit (.bool true))) []) := by
  have hF := fun σ => fun_few e 60 (by omega) (by omega) σ
  have hA' := fun σ => fun_awake σ
  refine fun_code Tryd.func5 k5 (by simp only [vex_eq]; rfl) fun hb hw => ?_
  unfold c5
  simp -dsimp -implicitDefEqProofs only [ev_t, ev_k, get_cons, get_nil, put_cons, put_nil, putd_some, keepOnly_nil, keepOnly_cons, optT_some, onT_true, t_mv, t_load, t_call, t_box, t_nil, w_ops, w_seq, then_normal, slots0, V.copy, V.lend, V.lend1, V.cells, V.boxable, v_packA, ldK_some, v_load_ptr, List.nil_append, List.drop_zero, List.take_succ_cons, List.take_zero, List.length_cons, List.length_nil, List.getElem?_cons_zero, Nat.zero_add, Nat.reduceLeDiff, eq_self, reduceIte, reduceCtorEq, List.contains_cons, List.contains_nil, List.map_cons, List.map_nil, Nat.reduceBEq, Nat.reduceLT, Nat.reduceEqDiff, Bool.or_false, Bool.or_true, Bool.false_eq_true, Nat.reduceAdd, vex_eq]
  refine fun_ret (by simpa only [vex_eq] using hF _) ?_
  simp -dsimp -implicitDefEqProofs only [ev_t, get_cons, get_nil, put_cons, put_nil, putd_some, optT_some, boolT_bool, t_mv, t_un, t_guard, V.copy, v_not, eq_self, reduceIte, Nat.reduceLT, Nat.reduceEqDiff, bq_false, Bool.not_not]
  refine iteT_intro (fun h1 => ?_) (fun h1 => ?_)
  · obtain ⟨hs, hd⟩ := few_of (n := 60) (e := e) (by omega) (by simpa using h1)
    simp -dsimp -implicitDefEqProofs only [ev_t, get_cons, get_nil, put_cons, put_nil, putd_some, optT_some, boolT_bool, iteT_true, t_load, t_call, t_guard, V.copy, V.lend, V.lend1, v_packA, ldK_some, v_load_ptr, List.drop_zero, List.take_succ_cons, List.take_zero, List.length_cons, List.length_nil, List.getElem?_cons_zero, Nat.zero_add, Nat.reduceLeDiff, eq_self, Bool.not_false, reduceIte, List.map_cons, List.map_nil, Nat.reduceLT, Nat.reduceEqDiff, bq_false, Nat.reduceAdd]
    refine fun_ret (by simpa only [vex_eq] using fun_rvalid e (by omega) (by omega) _) ?_
    simp -dsimp -implicitDefEqProofs only [ev_t, ev_k, get_cons, get_nil, put_cons, put_nil, putd_some, keepOnly_nil, keepOnly_cons, optT_some, boolT_bool, iteT_true, t_pick, t_bin, t_load, t_guard, t_nil, w_ops, w_seq, w_cond, then_normal, v_neq, v_pick, List.length_nil, cond_false, eq_self, Bool.not_false, reduceIte, List.contains_cons, List.contains_nil, Nat.reduceBEq, Nat.reduceLT, Nat.reduceEqDiff, Bool.or_false, Bool.or_true, Bool.false_eq_true, bq_false]
    refine iteT_intro (fun h2 => ?_) (fun h2 => ?_)
    · simp -dsimp -implicitDefEqProofs only [t_call, w_ops, w_seq, V.lend, List.map_nil]
      refine fun_ret (hA' _) ?_
      simp -dsimp -implicitDefEqProofs only [ev_t, get_cons, get_nil, put_cons, put_nil, putd_some, keepOnly_nil, keepOnly_cons, t_mv, t_load, t_nil, w_ops, w_seq, w_ret, then_normal, then_ret, V.copy, List.length_nil, eq_self, reduceIte, List.contains_cons, List.contains_nil, Nat.reduceBEq, Nat.reduceLT, Nat.reduceEqDiff, Bool.or_false, Bool.false_eq_true]
      exact fin_ret hb rfl rfl rfl ⟨rfl, rfl⟩
    · simp -dsimp -implicitDefEqProofs only [ev_t, get_cons, get_nil, put_cons, put_nil, putd_some, optT_some, t_load, t_call, w_skip, w_ops, w_seq, then_normal, V.copy, V.lend, V.lend1, v_packA, ldK_some, v_load_ptr, List.drop_zero, List.take_succ_cons, List.take_zero, List.length_cons, List.length_nil, List.getElem?_cons_zero, Nat.zero_add, Nat.reduceLeDiff, eq_self, reduceIte, List.map_cons, List.map_nil, Nat.reduceLT, Nat.reduceEqDiff, Nat.reduceAdd]
      refine fun_ret (by simpa only [vex_eq] using own_rnames e (by omega) (by omega) _) ?_
      simp -dsimp -implicitDefEqProofs only [ev_t, get_cons, get_nil, put_cons, put_nil, putd_some, keepOnly_nil, keepOnly_cons, optT_some, ownT_own, t_load, t_call, t_mvo, t_nil, w_ops, w_seq, then_normal, V.copy, V.lend, V.lend1, v_packA, ldK_some, v_load_ptr, List.drop_zero, List.take_succ_cons, List.take_zero, List.length_cons, List.length_nil, List.getElem?_cons_zero, Nat.zero_add, Nat.reduceLeDiff, eq_self, reduceIte, List.contains_cons, List.contains_nil, List.map_cons, List.map_nil, Nat.reduceBEq, Nat.reduceLT, Nat.reduceEqDiff, Bool.or_false, Bool.or_true, Bool.false_eq_true, Nat.reduceAdd]
      refine fun_ret (by simpa only [vex_eq] using fun_rarrays e (by omega) (by omega) _) ?_
      simp -dsimp -implicitDefEqProofs only [ev_t, ev_k, get_cons, get_nil, put_cons, put_nil, putd_some, keepOnly_nil, keepOnly_cons, t_mv, t_load, t_nilo, t_nil, w_ops, w_seq, w_block, then_normal, V.copy, List.length_nil, eq_self, reduceIte, List.contains_cons, List.contains_nil, Nat.reduceBEq, Nat.reduceLT, Nat.reduceEqDiff, Bool.or_false, Bool.or_true, Bool.false_eq_true]
      have hna : (namesOf [3, 24] e).length ≤ 1000000 := by have := names_len [3, 24] e; omega
      have hnn : (namesOf [2] e).length ≤ 1000000 := by have := names_len [2] e; omega
      have hv0 : validE e = 0 := by simpa using h2
      have hnz := names_small hv0
      refine awp_for (R := fun (j : Nat) ρ σ' => ρ = [(1, .d (dbools ms)), (2, .ptr 0 0), (5, .own 9 1 ((namesOf [2] e ++ ((namesOf [3, 24] e).take j).map fun a => elemName a 0).map fun s => [dstr s])), (6, .d (dstrs (namesOf [3, 24] e))), (7, vint .i64 j)] ∧ σ' = [[.d (dint e.op), .d (dint e.num), .d (dstr e.name), .d (.sl (e.args.map dex))]]) (namesOf [3, 24] e).length ⟨by simp, rfl⟩ ?_ _
      rintro j ρ' σ' hj ⟨rfl, rfl⟩
      by_cases hlt : j < (namesOf [3, 24] e).length
      · simp -dsimp -implicitDefEqProofs only [ev_t, ev_k, get_cons, get_nil, put_cons, put_nil, putd_some, keepOnly_nil, keepOnly_cons, optT_some, ownT_own, boolT_bool, iteT_true, t_mv, t_bin, t_ia, t_len, t_load, t_call, t_mvo, t_nilo, t_nil, w_skip, w_ops, w_seq, w_cond, w_block, then_normal, V.copy, V.lend, v_len_d, v_rows_d, v_lss, iaK_some, v_ia_nat, v_pack1, v_load_row, Option.bind_some, Option.map_some, List.getElem?_map, List.length_map, List.drop_zero, List.take_succ_cons, List.take_zero, List.length_cons, List.length_nil, Nat.zero_add, Nat.reduceLeDiff, true_and, eq_self, reduceIte, List.contains_cons, List.contains_nil, List.map_cons, List.map_nil, Nat.reduceBEq, Nat.reduceLT, Nat.reduceEqDiff, Bool.or_false, Bool.or_true, Bool.false_eq_true, dstrs, Int.ofNat_lt, hlt, decide_true, List.getElem?_eq_getElem hlt]
        refine fun_ret (element0_fun _ (hnz _ (List.getElem_mem hlt)) _) ?_
        simp -dsimp -implicitDefEqProofs only [ev_t, get_cons, get_nil, put_cons, put_nil, putd_some, ownT_own, rwT_some, onT_true, t_app, t_mks, V.copy, V.cells, v_rows_d, rowsOf, plains, V.plain, List.length_map, List.length_append, List.length_cons, List.length_nil, Nat.zero_add, true_and, eq_self, reduceIte, List.map_cons, List.map_nil, Nat.reduceBEq, Nat.reduceLT, Nat.reduceEqDiff, List.all_cons, List.all_nil, Bool.and_true]
        refine onT_intro (by simp only [List.length_take]; omega) ?_
        simp -dsimp -implicitDefEqProofs only [ev_t, ev_k, get_cons, get_nil, put_cons, put_nil, putd_some, keepOnly_nil, keepOnly_cons, optT_some, ownT_own, t_mv, t_bin, t_load, t_mvo, t_nilo, t_nil, w_ops, w_seq, w_block, then_normal, blk_normal, V.copy, v_add, List.length_nil, eq_self, reduceIte, List.contains_cons, List.contains_nil, Nat.reduceBEq, Nat.reduceLT, Nat.reduceEqDiff, Bool.or_false, Bool.or_true, Bool.false_eq_true, wrap_nat hlt (show (namesOf [3, 24] e).length ≤ 9223372036854775807 by omega)]
        refine ⟨hlt, Nxt.same (by simp) (boxesBelow_app (σ := []) hb rfl) rfl ?_⟩
        refine ⟨?_, rfl⟩
        have ht : (namesOf [3, 24] e).take (j + 1) = (namesOf [3, 24] e).take j ++ [(namesOf [3, 24] e)[j]] := by rw [List.take_add_one, List.getElem?_eq_getElem hlt]; rfl
        rw [ht]
        simp only [List.map_append, List.map_cons, List.map_nil, List.append_assoc, dstrs]
      · simp -dsimp -implicitDefEqProofs only [ev_t, ev_k, get_cons, get_nil, put_cons, put_nil, putd_some, keepOnly_nil, keepOnly_cons, optT_some, boolT_bool, iteT_false, t_mv, t_bin, t_len, t_load, t_mvo, t_nilo, t_nil, w_ops, w_seq, w_cond, w_block, w_exit, then_normal, then_exit, blk_exit, V.copy, v_len_d, v_lss, List.length_map, List.length_nil, eq_self, reduceIte, List.contains_cons, List.contains_nil, Nat.reduceBEq, Nat.reduceLT, Nat.reduceEqDiff, Bool.or_false, Bool.or_true, Bool.false_eq_true, dstrs, Int.ofNat_lt, hlt, decide_false]
        rw [List.take_of_length_le (by omega)]
        generalize hN : namesOf [2] e ++ (namesOf [3, 24] e).map (fun a => elemName a 0) = N
        have hNl : N.length ≤ 2000000 := by rw [← hN]; simp only [List.length_append, List.length_map]; omega
        refine awp_for (R := fun (j : Nat) ρ σ' => ρ = [(1, .d (dbools ms)), (2, .ptr 0 0), (5, .own 9 1 (N.map fun s => [dstr s])), (8, .own 39 2 ((envTo N ms j).map fun s => [dstr s.name, dint s.val])), (9, vint .i64 j)] ∧ σ' = [[.d (dint e.op), .d (dint e.num), .d (dstr e.name), .d (.sl (e.args.map dex))]]) N.length ⟨rfl, rfl⟩ ?_ _
        rintro j ρ' σ' hj ⟨rfl, rfl⟩
        by_cases hlt : j < N.length
        · have hgd : N.getD j ⟨#[]⟩ = N[j] := by rw [List.getD_eq_getElem?_getD, List.getElem?_eq_getElem hlt]; rfl
          have hel := envTo_len N ms j
          have hwr : IntKind.i64.wrap (3 + (j : Int)) = 3 + j := by rw [IntKind.wrap_i64]; omega
          have hmx : (IntKind.i64.wrap ((j : Int) + 1)) = ((j + 1 : Nat) : Int) := wrap_nat hlt (show N.length ≤ 9223372036854775807 by omega)
          have hst : ∀ (h : ms.getD j false = false), (envTo N ms (j + 1)).map (fun s => [dstr s.name, dint s.val]) = (envTo N ms j).map (fun s => [dstr s.name, dint s.val]) ++ [[dstr N[j], dint (3 + j)]] := fun h => by
            simp only [envTo, h, hgd, List.map_append, List.map_cons, List.map_nil, if_neg Bool.false_ne_true]
          by_cases hk : j < ms.length
          · have hmd : ms.getD j false = ms[j] := by rw [List.getD_eq_getElem?_getD, List.getElem?_eq_getElem hk]; rfl
            cases hbm : ms[j] with
            | false =>
              rw [hbm] at hmd
              simp -dsimp -implicitDefEqProofs only [ev_t, ev_k, get_cons, get_nil, put_cons, put_nil, putd_some, keepOnly_nil, keepOnly_cons, optT_some, ownT_own, rwT_some, boolT_bool, iteT_true, onT_true, t_mv, t_pick, t_bin, t_un, t_ia, t_len, t_load, t_bld, t_mvo, t_app, t_mks, t_guard, t_nil, w_skip, w_ops, w_seq, w_cond, w_block, then_normal, V.copy, V.cells, v_len_d, v_rows_d, v_add, v_lss, v_geq, v_not, v_pick, iaK_some, v_ia_nat, v_pack1, v_load_row, over, bldV, rowsOf, plains, V.plain, Option.bind_some, Option.map_some, List.getElem?_map, List.length_map, List.cons_append, List.nil_append, List.drop_succ_cons, List.drop_zero, List.take_succ_cons, List.take_zero, List.length_cons, List.length_nil, Nat.zero_add, Nat.reduceLeDiff, cond_false, and_true, true_and, eq_self, Bool.not_false, reduceIte, List.contains_cons, List.contains_nil, List.map_cons, List.map_nil, Nat.reduceBEq, Nat.reduceLT, Nat.reduceEqDiff, Bool.or_false, Bool.or_true, Bool.false_eq_true, bq_false, Nat.reduceAdd, List.all_cons, List.all_nil, Bool.and_true, dbools, Int.ofNat_lt, hlt, decide_true, List.getElem?_eq_getElem hlt, Int.ofNat_le, Nat.not_le.2 hk, decide_false, List.getElem?_eq_getElem hk, hbm, Bool.not_false, hwr]
              refine onT_intro (by omega) ?_
              simp -dsimp -implicitDefEqProofs only [ev_t, ev_k, get_cons, get_nil, put_cons, put_nil, putd_some, keepOnly_nil, keepOnly_cons, optT_some, ownT_own, t_mv, t_bin, t_load, t_mvo, t_nil, w_ops, w_seq, w_block, then_normal, blk_normal, V.copy, v_add, List.length_nil, eq_self, reduceIte, List.contains_cons, List.contains_nil, Nat.reduceBEq, Nat.reduceLT, Nat.reduceEqDiff, Bool.or_false, Bool.or_true, Bool.false_eq_true, hmx]
              refine ⟨hlt, Nxt.same (by simp) (boxesBelow_app (σ := []) hb rfl) rfl ?_⟩
              refine ⟨?_, rfl⟩
              rw [hst hmd]
              rfl
            | true =>
              rw [hbm] at hmd
              simp -dsimp -implicitDefEqProofs only [ev_t, ev_k, get_cons, get_nil, put_cons, put_nil, putd_some, keepOnly_nil, keepOnly_cons, optT_some, boolT_bool, iteT_true, iteT_false, t_mv, t_pick, t_bin, t_un, t_ia, t_len, t_load, t_guard, t_nil, w_skip, w_ops, w_seq, w_cond, w_block, then_normal, blk_normal, V.copy, v_len_d, v_rows_d, v_add, v_lss, v_geq, v_not, v_pick, iaK_some, v_ia_nat, v_pack1, v_load_row, Option.bind_some, Option.map_some, List.getElem?_map, List.length_map, List.drop_zero, List.take_succ_cons, List.take_zero, List.length_cons, List.length_nil, Nat.zero_add, Nat.reduceLeDiff, cond_false, true_and, eq_self, Bool.not_true, Bool.not_false, reduceIte, List.contains_cons, List.contains_nil, List.map_cons, List.map_nil, Nat.reduceBEq, Nat.reduceLT, Nat.reduceEqDiff, Bool.or_false, Bool.or_true, Bool.false_eq_true, bq_false, dbools, Int.ofNat_lt, hlt, decide_true, Int.ofNat_le, Nat.not_le.2 hk, decide_false, List.getElem?_eq_getElem hk, hbm, Bool.not_true, hmx]
              refine Nxt.same (by simp) (boxesBelow_app (σ := []) hb rfl) rfl ?_
              refine ⟨?_, rfl⟩
              simp only [envTo, hmd, if_true, List.append_nil]
              rfl
          · have hmd : ms.getD j false = false := by rw [List.getD_eq_getElem?_getD, List.getElem?_eq_none (by omega)]; rfl
            simp -dsimp -implicitDefEqProofs only [ev_t, ev_k, get_cons, get_nil, put_cons, put_nil, putd_some, keepOnly_nil, keepOnly_cons, optT_some, ownT_own, rwT_some, boolT_bool, iteT_true, iteT_false, onT_true, t_mv, t_pick, t_bin, t_ia, t_len, t_load, t_bld, t_mvo, t_app, t_mks, t_guard, t_nil, w_skip, w_ops, w_seq, w_cond, w_block, then_normal, V.copy, V.cells, v_len_d, v_rows_d, v_add, v_lss, v_geq, v_pick_tj, iaK_some, v_ia_nat, v_pack1, v_load_row, over, bldV, rowsOf, plains, V.plain, Option.bind_some, Option.map_some, List.getElem?_map, List.length_map, List.cons_append, List.nil_append, List.drop_succ_cons, List.drop_zero, List.take_succ_cons, List.take_zero, List.length_cons, List.length_nil, Nat.zero_add, Nat.reduceLeDiff, and_true, true_and, eq_self, Bool.not_true, Bool.not_false, reduceIte, List.contains_cons, List.contains_nil, List.map_cons, List.map_nil, Nat.reduceBEq, Nat.reduceLT, Nat.reduceEqDiff, Bool.or_false, Bool.or_true, Bool.false_eq_true, bq_false, Nat.reduceAdd, List.all_cons, List.all_nil, Bool.and_true, dbools, Int.ofNat_lt, hlt, decide_true, List.getElem?_eq_getElem hlt, Int.ofNat_le, Nat.not_lt.1 hk, hwr]
            refine onT_intro (by omega) ?_
            simp -dsimp -implicitDefEqProofs only [ev_t, ev_k, get_cons, get_nil, put_cons, put_nil, putd_some, keepOnly_nil, keepOnly_cons, optT_some, ownT_own, t_mv, t_bin, t_load, t_mvo, t_nil, w_ops, w_seq, w_block, then_normal, blk_normal, V.copy, v_add, List.length_nil, eq_self, reduceIte, List.contains_cons, List.contains_nil, Nat.reduceBEq, Nat.reduceLT, Nat.reduceEqDiff, Bool.or_false, Bool.or_true, Bool.false_eq_true, hmx]
            refine ⟨hlt, Nxt.same (by simp) (boxesBelow_app (σ := []) hb rfl) rfl ?_⟩
            refine ⟨?_, rfl⟩
            rw [hst hmd]
            rfl
        · simp -dsimp -implicitDefEqProofs only [ev_t, ev_k, get_cons, get_nil, put_cons, put_nil, putd_some, keepOnly_nil, keepOnly_cons, optT_some, boolT_bool, iteT_false, t_mv, t_bin, t_len, t_load, t_nil, w_ops, w_seq, w_cond, w_block, w_exit, then_normal, then_exit, blk_exit, V.copy, v_len_d, v_lss, List.length_map, List.length_nil, eq_self, reduceIte, List.contains_cons, List.contains_nil, Nat.reduceBEq, Nat.reduceLT, Nat.reduceEqDiff, Bool.or_false, Bool.or_true, Bool.false_eq_true, Int.ofNat_lt, hlt, decide_false]
          have hje : j = N.length := by omega
          rw [hje]
          have hel := envTo_len N ms N.length
          generalize hE : envTo N ms N.length = env at hel
          refine awp_for (R := fun (i : Nat) ρ σ' => ρ = [(2, .ptr 0 0), (5, .own 9 1 (N.map fun s => [dstr s])), (8, .own 39 2 (env.map fun s => [dstr s.name, dint s.val])), (10, vbool (allHave (N.take i) env)), (11, vint .i64 i)] ∧ σ' = [[.d (dint e.op), .d (dint e.num), .d (dstr e.name), .d (.sl (e.args.map dex))]]) N.length ⟨rfl, rfl⟩ ?_ _
          rintro i ρ' σ' hi ⟨rfl, rfl⟩
          by_cases hlt : i < N.length
          · simp -dsimp -implicitDefEqProofs only [ev_t, ev_k, get_cons, get_nil, put_cons, put_nil, putd_some, keepOnly_nil, keepOnly_cons, optT_some, boolT_bool, iteT_true, t_mv, t_bin, t_len, t_load, t_guard, t_nil, w_skip, w_ops, w_seq, w_cond, w_block, then_normal, V.copy, v_len_d, v_lss, List.length_map, List.length_nil, true_and, eq_self, reduceIte, List.contains_cons, List.contains_nil, Nat.reduceBEq, Nat.reduceLT, Nat.reduceEqDiff, Bool.or_false, Bool.or_true, Bool.false_eq_true, Int.ofNat_lt, hlt, decide_true]
            refine awp_for (R := fun (k : Nat) ρ σ' => ρ = [(2, .ptr 0 0), (5, .own 9 1 (N.map fun s => [dstr s])), (8, .own 39 2 (env.map fun s => [dstr s.name, dint s.val])), (10, vbool (allHave (N.take i) env)), (11, vint .i64 i), (12, vbool ((env.take k).any fun x => decide (x.name = N[i]))), (13, vint .i64 k)] ∧ σ' = [[.d (dint e.op), .d (dint e.num), .d (dstr e.name), .d (.sl (e.args.map dex))]]) env.length ⟨rfl, rfl⟩ ?_ _
            rintro k ρ' σ' hk ⟨rfl, rfl⟩
            by_cases hlk : k < env.length
            · have hkx : (IntKind.i64.wrap ((k : Int) + 1)) = ((k + 1 : Nat) : Int) := wrap_nat hlk (show env.length ≤ 9223372036854775807 by omega)
              have hta : ((env.take (k + 1)).any fun x => decide (x.name = N[i])) = (((env.take k).any fun x => decide (x.name = N[i])) || decide (env[k].name = N[i])) := by
                rw [List.take_add_one, List.getElem?_eq_getElem hlk]; simp only [Option.toList_some, List.any_append, List.any_cons, List.any_nil, Bool.or_false]
              cases hF : ((env.take k).any fun x => decide (x.name = N[i])) with
              | true =>
                rw [hF, Bool.true_or] at hta
                simp -dsimp -implicitDefEqProofs only [ev_t, ev_k, get_cons, get_nil, put_cons, put_nil, putd_some, keepOnly_nil, keepOnly_cons, optT_some, boolT_bool, iteT_true, iteT_false, t_mv, c_mv, c_pick, t_bin, t_len, t_load, t_guard, t_nil, c_guard, c_nil, w_skip, w_ops, w_draw, w_seq, w_cond, w_block, then_normal, blk_normal, V.copy, v_len_d, v_add, v_lss, v_pick_tj, List.length_map, List.length_nil, true_and, eq_self, Bool.not_true, Bool.not_false, reduceIte, List.contains_cons, List.contains_nil, Nat.reduceBEq, Nat.reduceLT, Nat.reduceEqDiff, Bool.or_false, Bool.or_true, Bool.false_eq_true, bq_false, Int.ofNat_lt, hlk, decide_true, Bool.not_true, hkx]
                refine Nxt.same (by simp) (boxesBelow_app (σ := []) hb rfl) rfl ?_
                rw [hta]
                exact ⟨rfl, rfl⟩
              | false =>
                rw [hF, Bool.false_or] at hta
                simp -dsimp -implicitDefEqProofs only [ev_t, ev_k, get_cons, get_nil, put_cons, put_nil, putd_some, keepOnly_nil, keepOnly_cons, optT_some, boolT_bool, iteT_true, t_mv, c_mv, c_pick, t_bin, c_bin, c_fa, c_ia, t_len, t_load, c_load, t_guard, t_nil, c_guard, c_nil, w_skip, w_ops, w_draw, w_seq, w_cond, w_block, then_normal, blk_normal, V.copy, v_len_d, v_rows_d, v_add, v_lss, v_seql, v_pick, v_fa_row, iaK_some, v_ia_nat, v_pack1, v_load_row, Option.bind_some, Option.map_some, List.getElem?_map, List.length_map, List.drop_zero, List.take_succ_cons, List.take_zero, List.length_cons, List.length_nil, Nat.zero_add, Nat.reduceLeDiff, cond_false, true_and, eq_self, Bool.not_false, reduceIte, List.contains_cons, List.contains_nil, List.map_cons, List.map_nil, Nat.reduceBEq, Nat.reduceLT, Nat.reduceEqDiff, Bool.or_false, Bool.or_true, Bool.false_eq_true, bq_false, Nat.reduceAdd, Int.ofNat_lt, hlk, decide_true, Bool.not_false, List.getElem?_eq_getElem hlk, List.getElem?_eq_getElem hlt, hkx]
                refine Nxt.same (by simp) (boxesBelow_app (σ := []) hb rfl) rfl ?_
                rw [hta]
                exact ⟨rfl, rfl⟩
            · have hix : (IntKind.i64.wrap ((i : Int) + 1)) = ((i + 1 : Nat) : Int) := wrap_nat hlt (show N.length ≤ 9223372036854775807 by omega)
              have hta : allHave (N.take (i + 1)) env = (allHave (N.take i) env && env.any fun x => decide (x.name = N[i])) := by
                rw [List.take_add_one, List.getElem?_eq_getElem hlt]; simp only [allHave, Option.toList_some, List.all_append, List.all_cons, List.all_nil, Bool.and_true]
              rw [List.take_of_length_le (show env.length ≤ k by omega)]
              cases hA : allHave (N.take i) env with
              | true =>
                rw [hA, Bool.true_and] at hta
                simp -dsimp -implicitDefEqProofs only [ev_t, ev_k, get_cons, get_nil, put_cons, put_nil, putd_some, keepOnly_nil, keepOnly_cons, optT_some, boolT_bool, iteT_true, iteT_false, t_mv, c_mv, t_pick, t_bin, t_len, t_load, t_call, t_guard, t_nil, c_guard, w_ops, w_draw, w_seq, w_cond, w_block, w_exit, then_normal, then_exit, blk_normal, blk_exit, V.copy, V.lend, V.lend1, v_len_d, v_add, v_lss, v_pick, v_packA, ldK_some, v_load_ptr, List.length_map, List.drop_zero, List.take_succ_cons, List.take_zero, List.length_cons, List.length_nil, List.getElem?_cons_zero, Nat.zero_add, Nat.reduceLeDiff, cond_true, eq_self, reduceIte, List.contains_cons, List.contains_nil, List.map_cons, List.map_nil, Nat.reduceBEq, Nat.reduceLT, Nat.reduceEqDiff, Bool.or_false, Bool.or_true, Bool.false_eq_true, bq_true, Nat.reduceAdd, Int.ofNat_lt, hlk, decide_false, hix]
                refine ⟨hlt, Nxt.same (by simp) (boxesBelow_app (σ := []) hb rfl) rfl ?_⟩
                rw [hta]
                exact ⟨rfl, rfl⟩
              | false =>
                rw [hA, Bool.false_and] at hta
                simp -dsimp -implicitDefEqProofs only [ev_t, ev_k, get_cons, get_nil, put_cons, put_nil, putd_some, keepOnly_nil, keepOnly_cons, optT_some, boolT_bool, iteT_false, t_mv, c_mv, t_pick, t_bin, t_len, t_load, t_call, t_guard, t_nil, c_guard, w_ops, w_draw, w_seq, w_cond, w_block, w_exit, then_normal, then_exit, blk_normal, blk_exit, V.copy, V.lend, V.lend1, v_len_d, v_add, v_lss, v_pick_jf, v_packA, ldK_some, v_load_ptr, List.length_map, List.drop_zero, List.take_succ_cons, List.take_zero, List.length_cons, List.length_nil, List.getElem?_cons_zero, Nat.zero_add, Nat.reduceLeDiff, eq_self, Bool.not_true, reduceIte, List.contains_cons, List.contains_nil, List.map_cons, List.map_nil, Nat.reduceBEq, Nat.reduceLT, Nat.reduceEqDiff, Bool.or_false, Bool.or_true, Bool.false_eq_true, bq_true, Nat.reduceAdd, Int.ofNat_lt, hlk, decide_false, hix]
                refine ⟨hlt, Nxt.same (by simp) (boxesBelow_app (σ := []) hb rfl) rfl ?_⟩
                rw [hta]
                exact ⟨rfl, rfl⟩
          · rw [List.take_of_length_le (show N.length ≤ i by omega)]
            have hkn : knownB env e = allHave N env := by rw [known_all, hN]
            simp -dsimp -implicitDefEqProofs only [ev_t, ev_k, get_cons, get_nil, put_cons, put_nil, putd_some, keepOnly_nil, keepOnly_cons, optT_some, boolT_bool, iteT_false, t_mv, t_bin, t_len, t_load, t_call, t_guard, t_nil, w_ops, w_seq, w_cond, w_block, w_exit, then_normal, then_exit, blk_exit, V.copy, V.lend, V.lend1, v_len_d, v_lss, v_packA, ldK_some, v_load_ptr, List.length_map, List.drop_zero, List.take_succ_cons, List.take_zero, List.length_cons, List.length_nil, List.getElem?_cons_zero, Nat.zero_add, Nat.reduceLeDiff, eq_self, reduceIte, List.contains_cons, List.contains_nil, List.map_cons, List.map_nil, Nat.reduceBEq, Nat.reduceLT, Nat.reduceEqDiff, Bool.or_false, Bool.or_true, Bool.false_eq_true, Nat.reduceAdd, Int.ofNat_lt, hlt, decide_false]
            refine fun_ret (by simpa only [vex_eq, dsigs] using fun_eval e env (by omega) (by omega) _) ?_
            unfold evalE
            rw [if_pos hv0, hkn]
            cases hA : allHave N env with
            | true =>
              simp -dsimp -implicitDefEqProofs only [ev_t, ev_k, get_cons, get_nil, put_cons, put_nil, putd_some, keepOnly_nil, keepOnly_cons, optT_some, boolT_bool, iteT_true, iteT_false, t_mv, t_pick, t_bin, t_binb, t_ext, t_call, t_guard, t_nil, w_ops, w_seq, then_normal, V.copy, V.lend, v_eql, v_beql, v_pick, v_pick_tj, v_ext, Option.map_some, List.length_nil, List.getElem?_cons_zero, List.getElem?_cons_succ, cond_true, eq_self, Bool.not_true, Bool.not_false, reduceIte, List.contains_cons, List.contains_nil, List.map_nil, Nat.reduceBEq, Nat.reduceLT, Nat.reduceEqDiff, Bool.or_false, Bool.or_true, Bool.false_eq_true, bq_true, bq_false, if_true, decide_true]
              refine fun_ret (hA' _) ?_
              simp -dsimp -implicitDefEqProofs only [ev_t, ev_k, get_cons, get_nil, put_cons, put_nil, putd_some, keepOnly_nil, keepOnly_cons, optT_some, t_mv, t_pick, t_nil, w_ret, then_normal, V.copy, v_pick, List.length_nil, cond_true, eq_self, reduceIte, List.contains_cons, List.contains_nil, Nat.reduceBEq, Nat.reduceLT, Nat.reduceEqDiff, Bool.or_false, Bool.false_eq_true]
              exact fin_ret hb rfl rfl rfl ⟨rfl, rfl⟩
            | false =>
              simp -dsimp -implicitDefEqProofs only [ev_t, ev_k, get_cons, get_nil, put_cons, put_nil, putd_some, keepOnly_nil, keepOnly_cons, optT_some, boolT_bool, iteT_true, t_mv, t_pick, t_bin, t_binb, t_ext, t_call, t_guard, t_nil, w_ops, w_seq, then_normal, V.copy, V.lend, v_eql, v_beql, v_pick, v_ext, Option.map_some, List.length_nil, List.getElem?_cons_zero, List.getElem?_cons_succ, cond_true, cond_false, eq_self, Bool.not_false, reduceIte, List.contains_cons, List.contains_nil, List.map_nil, Nat.reduceBEq, Nat.reduceLT, Nat.reduceEqDiff, Bool.or_false, Bool.or_true, Bool.false_eq_true, bq_true, bq_false, decide_true, show decide ((7 : Int) = 0) = false from rfl, Bool.not_false]
              refine fun_ret (hA' _) ?_
              simp -dsimp -implicitDefEqProofs only [ev_t, ev_k, get_cons, get_nil, put_cons, put_nil, putd_some, keepOnly_nil, keepOnly_cons, optT_some, t_mv, t_pick, t_nil, w_ret, then_normal, V.copy, v_pick, List.length_nil, cond_true, eq_self, reduceIte, List.contains_cons, List.contains_nil, Nat.reduceBEq, Nat.reduceLT, Nat.reduceEqDiff, Bool.or_false, Bool.false_eq_true]
              exact fin_ret hb rfl rfl rfl ⟨rfl, rfl⟩
  · simp -dsimp -implicitDefEqProofs only [ev_t, ev_k, get_cons, get_nil, put_cons, put_nil, putd_some, keepOnly_nil, keepOnly_cons, optT_some, boolT_bool, iteT_true, iteT_false, t_pick, t_load, t_call, t_guard, t_nil, w_ops, w_seq, w_cond, then_normal, V.lend, v_pick_tj, List.length_nil, eq_self, Bool.not_true, Bool.not_false, reduceIte, List.contains_cons, List.contains_nil, List.map_nil, Nat.reduceBEq, Nat.reduceLT, Nat.reduceEqDiff, Bool.or_false, Bool.or_true, Bool.false_eq_true, bq_false]
    refine fun_ret (hA' _) ?_
    simp -dsimp -implicitDefEqProofs only [ev_t, get_cons, get_nil, put_cons, put_nil, putd_some, keepOnly_nil, keepOnly_cons, t_mv, t_load, t_nil, w_ops, w_seq, w_ret, then_normal, then_ret, V.copy, List.length_nil, eq_self, reduceIte, List.contains_cons, List.contains_nil, Nat.reduceBEq, Nat.reduceLT, Nat.reduceEqDiff, Bool.or_false, Bool.false_eq_true]
    exact fin_ret hb rfl rfl rfl ⟨rfl, rfl⟩
end Go.Proofs.YtibfoafepjggjaaDoor
