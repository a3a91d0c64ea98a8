/-
  The law's Brief, and IsName, in the plain world.
-/
import Derived.Test.YtibfoafepjggjaaDoorSigs8
import Derived.Test.YtibfoafepjggjaaDoorK
namespace Go.Proofs.YtibfoafepjggjaaDoor
open Go.RowKit

theorem fun_isname (s : ByteArray) (σ : List (List V)) : Fun G 27 [.d (dstr s)] σ (RetV (.d (.lit (.bool (nameB s)))) σ) :=
  fun_of1 Tryd.func27 (by kernel_rfl) (by kernel_rfl) trivial fun M bm w v hG hM hr => by
    cases hr with
    | d h => cases h with
      | lit _ hs => exact risname_any s w (by simp only [Fits, maxLen] at hs; omega)
/-- At most 40 signals, with names of at most 40 bytes. -/
def briefB (env : List Sig) : Bool := ((env.take 41).all fun s => decide (s.name.size ≤ 40)) && decide (env.length ≤ 40)
theorem brief_fun (env : List Sig) (hl : env.length ≤ 9223372036854775807) (σ : List (List V)) : Fun G 26 [.d (dsigs env)] σ (RetV (vbool (briefB env)) σ) := by
  refine fun_code Tryd.func26 k26 rfl fun hb hw => ?_
  unfold c26
  simp -dsimp -implicitDefEqProofs only [ev_t, ev_k, put_cons, put_nil, putd_some, keepOnly_nil, keepOnly_cons, t_mv, t_len, t_nil, w_ops, w_seq, w_block, then_normal, slots0, V.copy, eq_self, reduceIte, reduceCtorEq, List.contains_cons, List.contains_nil, Nat.reduceBEq, Nat.reduceLT, Bool.or_false, Bool.or_true, Bool.false_eq_true, dsigs]
  refine awp_for (R := fun (j : Nat) ρ σ' => ρ = [(0, .d (dsigs env)), (3, vint .i64 j)] ∧ σ' = σ ∧ ((env.take j).all fun s => decide (s.name.size ≤ 40)) = true) (min env.length 41) ⟨rfl, rfl, rfl⟩ ?_ _
  rintro j ρ' σ' hj ⟨rfl, rfl, hall⟩
  by_cases hlt : j < env.length
  · by_cases h41 : j < 41
    · have hta : ((env.take (j + 1)).all fun s => decide (s.name.size ≤ 40)) = (((env.take j).all fun s => decide (s.name.size ≤ 40)) && decide (env[j].name.size ≤ 40)) := by
        rw [List.take_add_one, List.getElem?_eq_getElem hlt]; simp only [Option.toList_some, List.all_append, List.all_cons, List.all_nil, Bool.and_true]
      simp -dsimp -implicitDefEqProofs only [ev_t, ev_k, get_cons, get_nil, put_cons, put_nil, putd_some, keepOnly_nil, keepOnly_cons, optT_some, boolT_bool, iteT_true, t_mv, t_pick, t_bin, t_fa, t_ia, t_len, t_load, t_guard, t_nil, w_skip, w_ops, w_seq, w_cond, w_block, then_normal, V.copy, v_len_d, v_len_str, v_rows_d, v_lss, v_gtr, v_pick, v_fa_row, iaK_some, v_ia_nat, v_pack1, v_load_row, Option.bind_some, Option.map_some, List.getElem?_map, List.length_map, List.drop_zero, List.take_succ_cons, List.take_zero, List.length_cons, List.length_nil, Nat.zero_add, Nat.reduceLeDiff, cond_true, eq_self, reduceIte, reduceCtorEq, List.contains_cons, List.contains_nil, List.map_cons, List.map_nil, Nat.reduceBEq, Nat.reduceLT, Nat.reduceEqDiff, Bool.or_false, Bool.or_true, Bool.false_eq_true, bq_true, Nat.reduceAdd, dsigs, Int.ofNat_lt, hlt, decide_true, List.getElem?_eq_getElem hlt, decide_eq_true (show (j : Int) < 41 by omega)]
      refine iteT_intro (fun h4 => ?_) (fun h4 => ?_)
      · simp -dsimp -implicitDefEqProofs only [ev_t, ev_k, put_cons, put_nil, putd_some, keepOnly_nil, keepOnly_cons, t_mv, t_bin, t_len, t_nil, w_ops, w_seq, w_ret, then_normal, then_ret, blk_ret, V.copy, eq_self, reduceIte, reduceCtorEq, List.contains_cons, List.contains_nil, Nat.reduceBEq, Nat.reduceLT, Nat.reduceEqDiff, Bool.or_false, Bool.false_eq_true]
        have h5 : ¬ env[j].name.size ≤ 40 := by simp only [decide_eq_true_eq] at h4; omega
        refine fin_ret hb rfl rfl List.take_length ⟨?_, rfl⟩
        have : briefB env = false := by
          have h6 : ((env.take 41).all fun s => decide (s.name.size ≤ 40)) = false := by
            rw [List.all_eq_false]
            exact ⟨env[j], List.mem_take_iff_getElem.2 ⟨j, by omega, rfl⟩, by simpa using h5⟩
          simp only [briefB, h6, Bool.false_and]
        rw [this]; rfl
      · have h5 : env[j].name.size ≤ 40 := by simp only [decide_eq_false_iff_not] at h4; omega
        simp -dsimp -implicitDefEqProofs only [ev_t, ev_k, get_cons, get_nil, put_cons, put_nil, putd_some, keepOnly_nil, keepOnly_cons, optT_some, t_mv, t_bin, t_len, t_nil, w_skip, w_ops, w_seq, then_normal, blk_normal, V.copy, v_add, eq_self, reduceIte, reduceCtorEq, List.contains_cons, List.contains_nil, Nat.reduceBEq, Nat.reduceLT, Nat.reduceEqDiff, Bool.or_false, Bool.or_true, Bool.false_eq_true, wrap_nat hlt (show env.length ≤ 9223372036854775807 by omega)]
        refine ⟨by omega, Nxt.same (by simp) hb rfl ⟨rfl, rfl, ?_⟩⟩
        rw [hta, hall, decide_eq_true h5]; rfl
    · simp -dsimp -implicitDefEqProofs only [ev_t, ev_k, get_cons, get_nil, put_cons, put_nil, putd_some, keepOnly_nil, keepOnly_cons, optT_some, boolT_bool, iteT_true, iteT_false, t_mv, t_pick, t_bin, t_ia, t_len, t_guard, t_nil, w_ops, w_seq, w_cond, w_block, w_exit, w_ret, then_normal, then_exit, blk_exit, V.copy, v_len_d, v_lss, v_leq, v_pick, List.length_map, cond_true, eq_self, reduceIte, reduceCtorEq, List.contains_cons, List.contains_nil, Nat.reduceBEq, Nat.reduceLT, Nat.reduceEqDiff, Bool.or_false, Bool.or_true, Bool.false_eq_true, bq_true, dsigs, Int.ofNat_lt, hlt, decide_true, decide_eq_false (show ¬ (j : Int) < 41 by omega)]
      refine fin_ret hb rfl rfl List.take_length ⟨?_, rfl⟩
      have h6 : ¬ env.length ≤ 40 := by omega
      simp only [briefB, decide_eq_false h6, Bool.and_false]
      rw [decide_eq_false (by omega)]; rfl
  · simp -dsimp -implicitDefEqProofs only [ev_t, ev_k, get_cons, get_nil, put_cons, put_nil, putd_some, keepOnly_nil, keepOnly_cons, optT_some, boolT_bool, iteT_false, t_mv, t_pick, t_bin, t_ia, t_len, t_guard, t_nil, w_ops, w_seq, w_cond, w_block, w_exit, w_ret, then_normal, then_exit, blk_exit, V.copy, v_len_d, v_lss, v_leq, v_pick_jf, List.length_map, eq_self, Bool.not_true, reduceIte, reduceCtorEq, List.contains_cons, List.contains_nil, Nat.reduceBEq, Nat.reduceLT, Nat.reduceEqDiff, Bool.or_false, Bool.or_true, Bool.false_eq_true, bq_true, dsigs, Int.ofNat_lt, hlt, decide_false]
    refine fin_ret hb rfl rfl List.take_length ⟨?_, rfl⟩
    rw [List.take_of_length_le (by omega)] at hall
    have h6 : briefB env = decide (env.length ≤ 40) := by simp only [briefB, List.take_of_length_le (show env.length ≤ 41 by omega), hall, Bool.true_and]
    rw [h6, ← show decide ((env.length : Int) ≤ 40) = decide (env.length ≤ 40) by rw [decide_eq_decide]; omega]; rfl
theorem brief_len {env : List Sig} (h : briefB env = true) : env.length ≤ 40 := by
  simp only [briefB, Bool.and_eq_true, decide_eq_true_eq] at h; exact h.2
end Go.Proofs.YtibfoafepjggjaaDoor
