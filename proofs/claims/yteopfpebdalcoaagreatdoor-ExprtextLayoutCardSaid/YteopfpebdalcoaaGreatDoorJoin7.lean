/-
  Valid tokens by the reference; joined tokens.
-/
import Derived.Test.YteopfpebdalcoaaGreatDoorVal7
set_option linter.unusedVariables false
set_option linter.unusedSimpArgs false
set_option linter.unusedSectionVars false
namespace Go.Proofs.YteopfpebdalcoaaGreatDoor
open Go.RowKit
theorem r7valid_fun' (k n : Int) (l : Bs) (ln : Int) (σ : List (List V)) : Fun G 27 [tokA ⟨k, n, bs l, ln⟩] σ (RetV (.d (.lit (.bool (vTok ⟨k, n, bs l, ln⟩)))) σ) := by
  unfold tokA
  refine fun_code Tryz.func27 k27 rfl fun hb hw => ?_
  have hn := wf_int (wf_cell (hw 0 (by simp)) 1 (by simp))
  delta c27 oM oV kI kS kT kF
  by_cases h3 : k = 3
  · subst h3
    by_cases h0 : 0 ≤ n
    · rw [vTok_num n l ln h0]
      by_cases hm : n ≤ 2147483647
      · simp -dsimp -implicitDefEqProofs only [aw, slots0, V.copy, V.lend, V.cells, V.boxable, Nat.reduceLeDiff, cond_true, eq_self, reduceIte, reduceCtorEq, Nat.reduceBEq, Nat.reduceLT, Nat.reduceEqDiff, Nat.reduceAdd, Int.reduceEq, decide_true, decide_false, decide_eq_true h0, decide_eq_true hm]
        refine calm_ret (r1Format_fun n (by omega) (by omega) (by have := itoa_len n h0 hm; omega) _) ?_
        simp -dsimp -implicitDefEqProofs only [aw, V.copy, cond_true, eq_self, reduceIte, Nat.reduceBEq, Nat.reduceLT, Nat.reduceEqDiff, bs_dec]
        rw [decide_eq_true hm, Bool.true_and]
        exact fin_ret hb rfl rfl List.take_left ⟨rfl, rfl⟩
      · simp -dsimp -implicitDefEqProofs only [aw, slots0, V.copy, V.cells, V.boxable, Nat.reduceLeDiff, cond_true, eq_self, reduceIte, reduceCtorEq, Nat.reduceBEq, Nat.reduceLT, Nat.reduceEqDiff, Nat.reduceAdd, Int.reduceEq, decide_true, decide_false, decide_eq_true h0, decide_eq_false hm]
        exact fin_ret hb rfl rfl List.take_left ⟨rfl, rfl⟩
    · rw [vTok_neg n l ln h0]
      simp -dsimp -implicitDefEqProofs only [aw, slots0, V.copy, V.cells, V.boxable, Nat.reduceLeDiff, eq_self, reduceIte, reduceCtorEq, Nat.reduceBEq, Nat.reduceLT, Nat.reduceEqDiff, Nat.reduceAdd, Int.reduceEq, decide_true, decide_false, decide_eq_false h0]
      exact fin_ret hb rfl rfl List.take_left ⟨rfl, rfl⟩
  by_cases h1 : k = 1
  · subst h1
    rw [vTok1]
    by_cases hz : n = 0
    · simp -dsimp -implicitDefEqProofs only [aw, slots0, V.copy, V.lend, V.cells, V.boxable, Nat.reduceLeDiff, eq_self, reduceIte, reduceCtorEq, Nat.reduceBEq, Nat.reduceLT, Nat.reduceEqDiff, Nat.reduceAdd, decide_true, decide_eq_true hz]
      refine fun_ret (r7isname_fun l _) ?_
      simp -dsimp -implicitDefEqProofs only [aw, V.copy, cond_true, eq_self, reduceIte, Nat.reduceBEq, Nat.reduceLT, Nat.reduceEqDiff]
      rw [decide_eq_true hz, Bool.true_and]
      exact fin_ret hb rfl rfl List.take_left ⟨rfl, rfl⟩
    · simp -dsimp -implicitDefEqProofs only [aw, slots0, V.copy, V.cells, V.boxable, Nat.reduceLeDiff, eq_self, reduceIte, reduceCtorEq, Nat.reduceBEq, Nat.reduceLT, Nat.reduceEqDiff, Nat.reduceAdd, decide_true, decide_eq_false hz]
      exact fin_ret hb rfl rfl List.take_left ⟨rfl, rfl⟩
  by_cases h2 : k = 2
  · subst h2
    rw [vTok2]
    by_cases hz : n = 0
    · simp -dsimp -implicitDefEqProofs only [aw, slots0, V.copy, V.lend, V.cells, V.boxable, Nat.reduceLeDiff, eq_self, reduceIte, reduceCtorEq, Nat.reduceBEq, Nat.reduceLT, Nat.reduceEqDiff, Nat.reduceAdd, Int.reduceEq, decide_true, decide_false, decide_eq_true hz]
      refine fun_ret (r7iskw_fun (bs l) _) ?_
      simp -dsimp -implicitDefEqProofs only [aw, V.copy, cond_true, eq_self, reduceIte, Nat.reduceBEq, Nat.reduceLT, Nat.reduceEqDiff]
      rw [decide_eq_true hz, Bool.true_and]
      exact fin_ret hb rfl rfl List.take_left ⟨rfl, rfl⟩
    · simp -dsimp -implicitDefEqProofs only [aw, slots0, V.copy, V.cells, V.boxable, Nat.reduceLeDiff, eq_self, reduceIte, reduceCtorEq, Nat.reduceBEq, Nat.reduceLT, Nat.reduceEqDiff, Nat.reduceAdd, Int.reduceEq, decide_true, decide_false, decide_eq_false hz]
      exact fin_ret hb rfl rfl List.take_left ⟨rfl, rfl⟩
  by_cases h4 : k = 4
  · subst h4
    rw [vTok4]
    by_cases hz : n = 0
    · simp -dsimp -implicitDefEqProofs only [aw, slots0, V.copy, V.lend, V.cells, V.boxable, Nat.reduceLeDiff, eq_self, reduceIte, reduceCtorEq, Nat.reduceBEq, Nat.reduceLT, Nat.reduceEqDiff, Nat.reduceAdd, Int.reduceEq, decide_true, decide_false, decide_eq_true hz]
      refine fun_ret (r7ismark_fun' l _) ?_
      simp -dsimp -implicitDefEqProofs only [aw, V.copy, cond_true, eq_self, reduceIte, Nat.reduceBEq, Nat.reduceLT, Nat.reduceEqDiff]
      rw [decide_eq_true hz, Bool.true_and]
      exact fin_ret hb rfl rfl List.take_left ⟨rfl, rfl⟩
    · simp -dsimp -implicitDefEqProofs only [aw, slots0, V.copy, V.cells, V.boxable, Nat.reduceLeDiff, eq_self, reduceIte, reduceCtorEq, Nat.reduceBEq, Nat.reduceLT, Nat.reduceEqDiff, Nat.reduceAdd, Int.reduceEq, decide_true, decide_false, decide_eq_false hz]
      exact fin_ret hb rfl rfl List.take_left ⟨rfl, rfl⟩
  rw [vTok0 k n l ln h1 h2 h3 h4]
  simp -dsimp -implicitDefEqProofs only [aw, slots0, V.copy, V.cells, V.boxable, Nat.reduceLeDiff, eq_self, reduceIte, reduceCtorEq, Nat.reduceBEq, Nat.reduceLT, Nat.reduceEqDiff, Nat.reduceAdd, decide_eq_false h1, decide_eq_false h2, decide_eq_false h3, decide_eq_false h4]
  exact fin_ret hb rfl rfl List.take_left ⟨rfl, rfl⟩
theorem tok_bs (t : Tok) : t = ⟨t.kind, t.num, bs t.text.data.toList, t.line⟩ := by rw [bs_self]
theorem lxvalid_fun (t : Tok) (σ : List (List V)) : Fun G 170 [tokA t] σ (RetV (.d (.lit (.bool (vTok t)))) σ) := by
  rw [tok_bs t]; exact lxvalid_fun' _ _ _ _ _
theorem r7valid_fun (t : Tok) (σ : List (List V)) : Fun G 27 [tokA t] σ (RetV (.d (.lit (.bool (vTok t)))) σ) := by
  rw [tok_bs t]; exact r7valid_fun' _ _ _ _ _
theorem tokA_eq (t : Tok) : tokA t = .agg [.d (dint t.kind), .d (dint t.num), .d (dstr t.text), .d (dint t.line)] := rfl
def joinV (ts : List Tok) : V := if ts.all vTok = true then .tup [.d (dstr (bs (joinL ts))), .d (dint 0)] else .tup [.d (dstr ⟨#[]⟩), .d (dint 1)]
theorem joinL_snoc : ∀ (l : List Tok) (t : Tok), joinL (l ++ [t]) = if l = [] then t.text.data.toList else joinL l ++ 32 :: t.text.data.toList
  | [], t => rfl
  | [a], t => rfl
  | a :: b :: r, t => by
    have := joinL_snoc (b :: r) t
    simp only [List.cons_append, joinL] at this ⊢
    rw [this]; simp
theorem joinL_len (n : Nat) : ∀ (l : List Tok), (∀ t, t ∈ l → t.text.size ≤ n) → (joinL l).length ≤ (n + 1) * l.length
  | [], _ => by simp [joinL]
  | [a], h => by have := h a (by simp); rw [Lib.size_eq] at this; simp only [joinL, List.length_cons, List.length_nil]; omega
  | a :: b :: r, h => by
    have h1 := h a (by simp)
    have h2 := joinL_len n (b :: r) fun t ht => h t (by simp at ht ⊢; exact .inr ht)
    rw [Lib.size_eq] at h1
    have e : (n + 1) * (a :: b :: r).length = (n + 1) * (b :: r).length + (n + 1) := by rw [List.length_cons (a := a), Nat.mul_succ]
    rw [e]
    simp only [joinL, List.length_append, List.length_cons] at h2 ⊢
    omega
theorem join_eq : ∀ ts : List Tok, Lib.join (ts.map fun t => t.text.data.toList) [32] = joinL ts
  | [] => rfl
  | [t] => by simp [joinL, Lib.join_one]
  | t :: u :: r => by
    have := join_eq (u :: r)
    simp only [List.map_cons] at this ⊢
    rw [Lib.join_cons] at this ⊢
    simp only [joinL, ← this]
    simp [Lib.joinTail]
set_option maxHeartbeats 1000000 in
theorem r7join_fun (ts : List Tok) (hl : ts.length ≤ 20000) (ht : ∀ t, t ∈ ts → t.text.size ≤ 1000) (σ : List (List V)) : Fun G 14 [.d (.sl (ts.map tokD))] σ (RetV (joinV ts) σ) := by
  refine fun_code Tryz.func14 k14 rfl fun hb hw => ?_
  delta c14 oM oV kI kS kT kF
  simp -dsimp -implicitDefEqProofs only [aw, slots0, V.copy, eq_self, reduceIte, reduceCtorEq, Nat.reduceBEq, Nat.reduceLT, Nat.reduceEqDiff]
  refine awp_forK [0, 4, 5] (R := fun (j : Nat) ρ σ' => ρ = [(0, .d (.sl (ts.map tokD))), (4, .d (dstr (bs (joinL (ts.take j))))), (5, vint .i64 j)] ∧ σ' = σ ∧ (ts.take j).all vTok = true) ts.length ⟨rfl, rfl, rfl⟩ ?_ _
  rintro j ρ' σ' hj ⟨rfl, rfl, hv⟩
  by_cases hlt : j < ts.length
  · have htk : ts.take (j + 1) = ts.take j ++ [ts[j]] := by rw [List.take_add_one, List.getElem?_eq_getElem hlt]; rfl
    have hsn := joinL_snoc (ts.take j) ts[j]
    rw [← htk] at hsn
    have hjl := joinL_len 1000 (ts.take j) fun t h => ht t (List.mem_of_mem_take h)
    rw [List.length_take] at hjl
    have hmin : min j ts.length ≤ 20000 := by omega
    have hjl2 : (joinL (ts.take j)).length ≤ 1001 * 20000 := Nat.le_trans hjl (Nat.mul_le_mul_left _ hmin)
    have htx := ht _ (List.getElem_mem hlt)
    have hall : (ts.take (j + 1)).all vTok = vTok ts[j] := by rw [htk, List.all_append, hv]; simp
    obtain ⟨tx, htxe⟩ : ∃ l, ts[j].text = bs l := ⟨_, (bs_self _).symm⟩
    rw [htxe] at htx hsn
    rw [bs_size] at htx
    rw [bs_list] at hsn
    simp -dsimp -implicitDefEqProofs only [aw, V.copy, V.lend, V.lend1, Nat.reduceLeDiff, eq_self, reduceIte, reduceCtorEq, Nat.reduceBEq, Nat.reduceLT, Nat.reduceEqDiff, Nat.reduceAdd, Int.ofNat_lt, hlt, decide_true, List.getElem?_eq_getElem hlt, tokD]
    rw [← tokA_eq]
    refine fun_ret (r7valid_fun ts[j] _) ?_
    cases hvj : vTok ts[j] with
    | false =>
      simp -dsimp -implicitDefEqProofs only [aw, V.copy, eq_self, reduceIte, reduceCtorEq, Nat.reduceBEq, Nat.reduceLT, Nat.reduceEqDiff]
      have : ts.all vTok = false := by
        rw [List.all_eq_false]; exact ⟨_, List.getElem_mem hlt, by rw [hvj]; decide⟩
      unfold joinV
      rw [if_neg (by rw [this]; decide)]
      first | exact fin_ret hb rfl rfl List.take_length ⟨rfl, rfl⟩ | exact fin_ret hb rfl rfl List.take_left ⟨rfl, rfl⟩
    | true =>
      rw [hvj] at hall
      have e32 : (⟨#[32]⟩ : ByteArray) = bs [32] := rfl
      by_cases hj0 : 0 < j
      · have hj0' : (0 : Int) < (j : Nat) := by omega
        have hne : ¬ ts.take j = [] := fun h => by
          have h1 := congrArg List.length h
          rw [List.length_take, List.length_nil] at h1; omega
        rw [if_neg hne] at hsn
        have hs1 : (joinL (ts.take j)).length + ([32] : Bs).length ≤ 9223372036854775807 := by simp only [List.length_cons, List.length_nil]; omega
        have hs2 : (joinL (ts.take j) ++ [32]).length + tx.length ≤ 9223372036854775807 := by simp only [List.length_append, List.length_cons, List.length_nil]; omega
        have a1 : binV .add (V.d (dstr (bs (joinL (ts.take j))))) (V.d (dstr ⟨#[32]⟩)) = some (V.d (dstr (bs (joinL (ts.take j) ++ [32])))) := by
          rw [e32, v_sadd, bs_size, bs_size, if_pos hs1, bs_append]
        have a2 : binV .add (V.d (dstr (bs (joinL (ts.take j) ++ [32])))) (V.d (dstr (bs tx))) = some (V.d (dstr (bs (joinL (ts.take (j + 1)))))) := by
          rw [v_sadd, bs_size, bs_size, if_pos hs2, bs_append, hsn, List.append_assoc]; rfl
        generalize joinL (ts.take (j + 1)) = J2 at *
        generalize joinL (ts.take j) ++ [32] = J1 at *
        generalize joinL (ts.take j) = J0 at *
        simp -dsimp -implicitDefEqProofs only [aw, V.copy, Nat.reduceLeDiff, eq_self, reduceIte, reduceCtorEq, Nat.reduceBEq, Nat.reduceLT, Nat.reduceEqDiff, Nat.reduceAdd, decide_eq_true hj0', a1, List.getElem?_eq_getElem hlt, tokD, htxe, a2, wrap_nat hlt (show ts.length ≤ 9223372036854775807 by omega)]
        exact ⟨hlt, Nxt.same (Nat.le_refl _) hb rfl ⟨rfl, rfl, hall⟩⟩
      · have hj0' : ¬ (0 : Int) < (j : Nat) := by omega
        have hje : ts.take j = [] := by rw [show j = 0 by omega]; rfl
        rw [if_pos hje] at hsn
        have hs2 : ([] : Bs).length + tx.length ≤ 9223372036854775807 := by simp only [List.length_nil]; omega
        have a2 : binV .add (V.d (dstr (bs (joinL (ts.take j))))) (V.d (dstr (bs tx))) = some (V.d (dstr (bs (joinL (ts.take (j + 1)))))) := by
          rw [hje, hsn, show joinL [] = [] from rfl, v_sadd, bs_size, bs_size, if_pos hs2, bs_append]; rfl
        generalize joinL (ts.take (j + 1)) = J2 at *
        generalize joinL (ts.take j) = J0 at *
        simp -dsimp -implicitDefEqProofs only [aw, V.copy, Nat.reduceLeDiff, eq_self, reduceIte, reduceCtorEq, Nat.reduceBEq, Nat.reduceLT, Nat.reduceEqDiff, Nat.reduceAdd, decide_eq_false hj0', List.getElem?_eq_getElem hlt, tokD, htxe, a2, wrap_nat hlt (show ts.length ≤ 9223372036854775807 by omega)]
        exact ⟨hlt, Nxt.same (Nat.le_refl _) hb rfl ⟨rfl, rfl, hall⟩⟩
  · simp -dsimp -implicitDefEqProofs only [aw, V.copy, eq_self, reduceIte, reduceCtorEq, Nat.reduceBEq, Nat.reduceLT, Nat.reduceEqDiff, Int.ofNat_lt, hlt, decide_false]
    rw [List.take_of_length_le (by omega)] at hv ⊢
    unfold joinV
    rw [if_pos hv]
    first | exact fin_ret hb rfl rfl List.take_length ⟨rfl, rfl⟩ | exact fin_ret hb rfl rfl List.take_left ⟨rfl, rfl⟩
set_option maxHeartbeats 1000000 in
theorem lxjoin_fun (ts : List Tok) (hl : ts.length ≤ 1000) (ht : ∀ t, t ∈ ts → t.text.size ≤ 1000) (σ : List (List V)) : Fun G 166 [.d (.sl (ts.map tokD))] σ (RetV (joinV ts) σ) := by
  refine fun_code Tryz.func166 k166 rfl fun hb hw => ?_
  delta c166 oM oV kI kS kT kF
  simp -dsimp -implicitDefEqProofs only [aw, slots0, V.copy, eq_self, reduceIte, reduceCtorEq, Nat.reduceBEq, Nat.reduceLT, Nat.reduceEqDiff]
  refine onT_intro (by first | omega | (simp only [List.length_map]; omega)) ?_
  simp -dsimp -implicitDefEqProofs only [aw, V.copy, V.lend, eq_self, reduceIte, reduceCtorEq, Nat.reduceBEq, Nat.reduceLT, Nat.reduceEqDiff]
  refine awp_forK [4, 10, 11, 12] (R := fun (j : Nat) ρ σ' => ρ = [(4, .own 9 1 ((ts.take j).map fun t => [dstr t.text])), (10, .d (.sl (ts.map tokD))), (11, vint .i64 ts.length), (12, vint .i64 j)] ∧ σ' = σ ∧ (ts.take j).all vTok = true) ts.length ⟨by simp []; rfl, rfl, rfl⟩ ?_ _
  rintro j ρ' σ' hj ⟨rfl, rfl, hv⟩
  by_cases hlt : j < ts.length
  · have htk : ts.take (j + 1) = ts.take j ++ [ts[j]] := by rw [List.take_add_one, List.getElem?_eq_getElem hlt]; rfl
    have hall : (ts.take (j + 1)).all vTok = vTok ts[j] := by rw [htk, List.all_append, hv]; simp
    simp -dsimp -implicitDefEqProofs only [aw, V.copy, V.lend, V.lend1, V.cells, V.boxable, over, Nat.reduceLeDiff, eq_self, reduceIte, Nat.reduceBEq, Nat.reduceLT, Nat.reduceEqDiff, Nat.reduceAdd, Int.ofNat_lt, hlt, decide_true, List.getElem?_eq_getElem hlt, tokD]
    rw [← tokA_eq]
    refine fun_ret (lxvalid_fun ts[j] _) ?_
    cases hvj : vTok ts[j] with
    | false =>
      simp -dsimp -implicitDefEqProofs only [aw, V.copy, V.lend, eq_self, reduceIte, Nat.reduceBEq, Nat.reduceLT, Nat.reduceEqDiff]
      have : ts.all vTok = false := by
        rw [List.all_eq_false]; exact ⟨_, List.getElem_mem hlt, by rw [hvj]; decide⟩
      unfold joinV
      rw [if_neg (by rw [this]; decide)]
      exact fin_box hb rfl rfl
    | true =>
      rw [hvj] at hall
      simp -dsimp -implicitDefEqProofs only [aw, V.copy, V.lend, V.cells, rowsOf, plains, V.plain, Nat.reduceLeDiff, eq_self, reduceIte, Nat.reduceBEq, Nat.reduceLT, Nat.reduceEqDiff, Nat.reduceAdd]
      refine onT_intro (by first | omega | (simp only [List.length_take]; omega)) ?_
      simp -dsimp -implicitDefEqProofs only [aw, V.copy, V.lend, eq_self, reduceIte, Nat.reduceBEq, Nat.reduceLT, Nat.reduceEqDiff, wrap_nat hlt (show ts.length ≤ 9223372036854775807 by omega)]
      refine ⟨hlt, Nxt.drop (Nat.le_refl _) hb rfl ⟨?_, rfl, hall⟩⟩
      rw [htk, List.map_append]; rfl
  · simp -dsimp -implicitDefEqProofs only [aw, V.copy, V.lend, eq_self, reduceIte, Nat.reduceBEq, Nat.reduceLT, Nat.reduceEqDiff, Int.ofNat_lt, hlt, decide_false]
    rw [List.take_of_length_le (by omega)] at hv ⊢
    have hd : V.d (.sl (ts.map fun t => [dstr t.text])) = V.d (dstrs (ts.map Tok.text)) := by unfold dstrs; rw [List.map_map]; rfl
    have hjl := joinL_len 1000 ts ht
    have hjl2 : (joinL ts).length ≤ 1001 * 1000 := Nat.le_trans hjl (Nat.mul_le_mul_left _ hl)
    have hjq : Lib.join ((ts.map Tok.text).map (·.data.toList)) [32] = joinL ts := by rw [← join_eq, List.map_map]; rfl
    rw [hd]
    refine fun_ret (fun_join (ts.map Tok.text) (by rw [List.length_map]; omega) (by rw [hjq]; omega) _) ?_
    rw [hjq]
    simp -dsimp -implicitDefEqProofs only [aw, V.copy, eq_self, reduceIte, Nat.reduceBEq, Nat.reduceLT, Nat.reduceEqDiff]
    unfold joinV
    rw [if_pos hv]
    first | exact fin_ret hb rfl rfl List.take_length ⟨rfl, rfl⟩ | exact fin_ret hb rfl rfl List.take_left ⟨rfl, rfl⟩
end Go.Proofs.YteopfpebdalcoaaGreatDoor
