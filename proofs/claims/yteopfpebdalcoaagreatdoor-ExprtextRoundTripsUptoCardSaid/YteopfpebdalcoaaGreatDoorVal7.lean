/-
  Names, marks, valid tokens: the lexer's and the reference's.
-/
import Derived.Test.YteopfpebdalcoaaGreatDoorRef7c
set_option linter.unusedVariables false
set_option linter.unusedSimpArgs false
set_option linter.unusedSectionVars false
namespace Go.Proofs.YteopfpebdalcoaaGreatDoor
open Go.RowKit
theorem fun_isname (l : Bs) (σ : List (List V)) : Fun G 62 [.d (dstr (bs l))] σ (RetV (.d (.lit (.bool (nameB (bs l))))) σ) :=
  fun_of1 Tryz.func62 (by kernel_rfl) (by kernel_rfl) trivial fun M bm pr w v hG hM h1 => by
    have hs : (bs l).size ≤ 9223372036854775807 := by
      cases h1 with | d h => cases h with | lit _ hf => exact hf
    cases rep_lit h1
    exact isname_any (bs l) w hs (keys_of hG.1 hM)
theorem index_fun (l : List ByteArray) (s : ByteArray) (hl : l.length ≤ 1000000) (σ : List (List V)) : Fun G 141 [.d (dstrs l), .d (dstr s)] σ fun o σ' => ∃ i : Int, o = .ret (.d (dint i)) ∧ σ' = σ ∧ decide (0 ≤ i) = inB s l := by
  refine fun_code Tryz.func141 k141 rfl fun hb hw => ?_
  delta c141 oM oV kI kS kT kF
  simp -dsimp -implicitDefEqProofs only [aw, slots0, V.copy, eq_self, reduceIte, reduceCtorEq, Nat.reduceBEq, Nat.reduceLT, Nat.reduceEqDiff, dstrs]
  refine awp_forK [0, 1, 7, 8] (R := fun (j : Nat) ρ σ' => ρ = [(0, .d (.sl (l.map fun s => [dstr s]))), (1, .d (dstr s)), (7, vint .i64 l.length), (8, vint .i64 j)] ∧ σ' = σ ∧ inB s l = inB s (l.drop j)) l.length ⟨rfl, rfl, rfl⟩ ?_ _
  rintro j ρ' σ' hj ⟨rfl, rfl, hr⟩
  by_cases hlt : j < l.length
  · have hd : inB s (l.drop j) = (decide (l[j] = s) || inB s (l.drop (j + 1))) := by rw [List.drop_eq_getElem_cons hlt]; rfl
    by_cases he : l[j] = s
    · simp -dsimp -implicitDefEqProofs only [aw, V.copy, Nat.reduceLeDiff, eq_self, reduceIte, reduceCtorEq, Nat.reduceBEq, Nat.reduceLT, Nat.reduceEqDiff, Int.ofNat_lt, hlt, decide_true, List.getElem?_eq_getElem hlt, decide_eq_true he.symm]
      rw [hd, decide_eq_true he] at hr
      exact fin_ret hb rfl rfl List.take_length ⟨j, rfl, rfl, by rw [hr, decide_eq_true (by omega)]; rfl⟩
    · simp -dsimp -implicitDefEqProofs only [aw, V.copy, Nat.reduceLeDiff, eq_self, reduceIte, reduceCtorEq, Nat.reduceBEq, Nat.reduceLT, Nat.reduceEqDiff, Int.ofNat_lt, hlt, decide_true, List.getElem?_eq_getElem hlt, decide_eq_false (Ne.symm he), wrap_nat hlt (show l.length ≤ 9223372036854775807 by omega)]
      rw [hd, decide_eq_false he, Bool.false_or] at hr
      exact Nxt.same (Nat.le_refl _) hb rfl ⟨rfl, rfl, hr⟩
  · simp -dsimp -implicitDefEqProofs only [aw, V.copy, eq_self, reduceIte, reduceCtorEq, Nat.reduceBEq, Nat.reduceLT, Nat.reduceEqDiff, Int.ofNat_lt, hlt, decide_false]
    rw [List.drop_eq_nil_of_le (by omega)] at hr
    exact fin_ret hb rfl rfl List.take_length ⟨-1, rfl, rfl, by rw [hr]; rfl⟩
theorem contains_fun (l : List ByteArray) (s : ByteArray) (hl : l.length ≤ 1000000) (σ : List (List V)) : Fun G 121 [.d (dstrs l), .d (dstr s)] σ (RetV (.d (.lit (.bool (inB s l)))) σ) := by
  refine fun_code Tryz.func121 k121 rfl fun hb hw => ?_
  delta c121 oM oV kI kS kT kF
  simp -dsimp -implicitDefEqProofs only [aw, slots0, V.copy, V.lend, eq_self, reduceIte, reduceCtorEq, Nat.reduceBEq, Nat.reduceLT, Nat.reduceEqDiff]
  refine fun_mono (index_fun l s hl _) fun o σ' ⟨i, h1, h2, h3⟩ => ?_
  subst h1; subst h2
  simp -dsimp -implicitDefEqProofs only [aw, V.copy, eq_self, reduceIte, reduceCtorEq, Nat.reduceBEq, Nat.reduceLT, Nat.reduceEqDiff, retK_ret, h3]
  first | exact fin_ret hb rfl rfl List.take_length ⟨rfl, rfl⟩ | exact fin_ret hb rfl rfl List.take_left ⟨rfl, rfl⟩
theorem mark_in (l : Bs) : inB (bs l) markSs = markList.contains l := by
  unfold inB markSs
  rw [List.any_map, List.contains_eq_any_beq]
  congr 1
  funext x
  rw [Bool.eq_iff_iff]
  simp only [Function.comp, decide_eq_true_eq, bs_inj, beq_iff_eq]
  exact eq_comm
theorem fun_ismark (l : Bs) (σ : List (List V)) : Fun G 171 [.d (dstr (bs l))] σ (RetV (.d (.lit (.bool (markList.contains l)))) σ) := by
  refine fun_code Tryz.func171 k171 rfl fun hb hw => ?_
  delta c171 oM oV kI kS kT kF
  have hg : ∀ ρ, ev G ρ (.g 0) = .row [.sl (markList.map fun s => [.lit (.string (bs s))])] 0 := fun _ => rfl
  simp -dsimp -implicitDefEqProofs only [aw, slots0, V.copy, V.lend, Nat.reduceLeDiff, eq_self, reduceIte, reduceCtorEq, Nat.reduceBEq, Nat.reduceLT, Nat.reduceEqDiff, hg]
  refine fun_ret (contains_fun markSs (bs l) (by decide) _) ?_
  rw [mark_in]
  simp -dsimp -implicitDefEqProofs only [aw, V.copy, eq_self, reduceIte, reduceCtorEq, Nat.reduceBEq, Nat.reduceLT, Nat.reduceEqDiff]
  first | exact fin_ret hb rfl rfl List.take_length ⟨rfl, rfl⟩ | exact fin_ret hb rfl rfl List.take_left ⟨rfl, rfl⟩
theorem r7isname_fun (l : Bs) (σ : List (List V)) : Fun G 56 [.d (dstr (bs l))] σ (RetV (.d (.lit (.bool (nameB (bs l))))) σ) := by
  have hnm : nameB (bs l) = (wordL l && decide (l.length ≤ 16) && !inB (bs l) kwList) := by unfold nameB wordB; rw [bs_list, bs_size]
  rw [hnm]
  refine fun_code Tryz.func56 k56 rfl fun hb hw => ?_
  delta c56 oM oV kI kS kT kF
  match l with
  | [] =>
    simp -dsimp -implicitDefEqProofs only [aw, slots0, V.copy, Nat.reduceLeDiff, eq_self, reduceIte, reduceCtorEq, Nat.reduceBEq, Nat.reduceLT, Nat.reduceEqDiff, nil_yes]
    first | exact fin_ret hb rfl rfl List.take_length ⟨rfl, rfl⟩ | exact fin_ret hb rfl rfl List.take_left ⟨rfl, rfl⟩
  | c :: r =>
    obtain ⟨l, hl⟩ : ∃ l, l = c :: r := ⟨_, rfl⟩
    have hnil := nil_no c r
    have hix := ix_head c r
    have hwl : wordL (c :: r) = (lowB c.toNat && (c :: r).all inn) := rfl
    rw [hwl]
    rw [← hl] at hnil hix ⊢
    by_cases h16 : l.length ≤ 16
    · have h16' : ¬ (16 : Int) < ((l.length : Nat) : Int) := by omega
      simp -dsimp -implicitDefEqProofs only [aw, slots0, V.copy, V.lend, cond_false, eq_self, reduceIte, reduceCtorEq, Nat.reduceBEq, Nat.reduceLT, Nat.reduceEqDiff, hnil, bs_size, decide_eq_false h16', hix]
      refine fun_ret (r7small_fun _ _) ?_
      rw [decide_eq_true h16, Bool.and_true]
      cases hlow : lowB c.toNat with
      | false =>
        simp -dsimp -implicitDefEqProofs only [aw, V.copy, cond_false, eq_self, reduceIte, reduceCtorEq, Nat.reduceBEq, Nat.reduceLT, Nat.reduceEqDiff]
        first | exact fin_ret hb rfl rfl List.take_length ⟨rfl, rfl⟩ | exact fin_ret hb rfl rfl List.take_left ⟨rfl, rfl⟩
      | true =>
        simp -dsimp -implicitDefEqProofs only [aw, V.copy, V.lend, cond_false, eq_self, reduceIte, reduceCtorEq, Nat.reduceLT, Nat.reduceEqDiff]
        refine fun_ret (r7iskw_fun _ _) ?_
        cases hkw : inB (bs l) kwList with
        | true =>
          simp -dsimp -implicitDefEqProofs only [aw, V.copy, cond_false, eq_self, reduceIte, reduceCtorEq, Nat.reduceBEq, Nat.reduceLT, Nat.reduceEqDiff]
          rw [Bool.and_false]
          first | exact fin_ret hb rfl rfl List.take_length ⟨rfl, rfl⟩ | exact fin_ret hb rfl rfl List.take_left ⟨rfl, rfl⟩
        | false =>
          rw [Bool.true_and, Bool.not_false, Bool.and_true]
          simp -dsimp -implicitDefEqProofs only [aw, V.copy, cond_false, eq_self, reduceIte, reduceCtorEq, Nat.reduceBEq, Nat.reduceLT, Nat.reduceEqDiff]
          refine awp_forK [0, 3] (R := fun (j : Nat) ρ σ' => ρ = [(0, .d (dstr (bs l))), (3, vint .i64 j)] ∧ σ' = σ ∧ l.all inn = (l.drop j).all inn) l.length ⟨rfl, rfl, rfl⟩ ?_ _
          rintro j ρ' σ' hj ⟨rfl, rfl, hr⟩
          by_cases hlt : j < l.length
          · have hd : (l.drop j).all inn = (inn l[j] && (l.drop (j + 1)).all inn) := by rw [List.drop_eq_getElem_cons hlt]; rfl
            simp -dsimp -implicitDefEqProofs only [aw, V.copy, V.lend, eq_self, reduceIte, reduceCtorEq, Nat.reduceBEq, Nat.reduceLT, Nat.reduceEqDiff, bs_size, Int.ofNat_lt, hlt, decide_true, bs_list, List.getElem?_eq_getElem hlt]
            refine fun_ret (r7inner_fun _ _) ?_
            cases hin : inn l[j] with
            | true =>
              rw [hd, hin, Bool.true_and] at hr
              rw [show folB (l[j].toNat : Int) = true from hin]
              simp -dsimp -implicitDefEqProofs only [aw, V.copy, eq_self, reduceIte, reduceCtorEq, Nat.reduceBEq, Nat.reduceLT, Nat.reduceEqDiff, wrap_nat hlt (show l.length ≤ 9223372036854775807 by omega)]
              exact ⟨hlt, Nxt.same (Nat.le_refl _) hb rfl ⟨rfl, rfl, hr⟩⟩
            | false =>
              rw [hd, hin, Bool.false_and] at hr
              rw [show folB (l[j].toNat : Int) = false from hin]
              simp -dsimp -implicitDefEqProofs only [aw, V.copy, eq_self, reduceIte, reduceCtorEq, Nat.reduceBEq, Nat.reduceLT, Nat.reduceEqDiff]
              rw [hr]
              first | exact fin_ret hb rfl rfl List.take_length ⟨rfl, rfl⟩ | exact fin_ret hb rfl rfl List.take_left ⟨rfl, rfl⟩
          · simp -dsimp -implicitDefEqProofs only [aw, V.copy, eq_self, reduceIte, reduceCtorEq, Nat.reduceBEq, Nat.reduceLT, Nat.reduceEqDiff, bs_size, Int.ofNat_lt, hlt, decide_false]
            rw [List.drop_eq_nil_of_le (by omega)] at hr
            rw [hr]
            first | exact fin_ret hb rfl rfl List.take_length ⟨rfl, rfl⟩ | exact fin_ret hb rfl rfl List.take_left ⟨rfl, rfl⟩
    · have h16' : (16 : Int) < ((l.length : Nat) : Int) := by omega
      simp -dsimp -implicitDefEqProofs only [aw, slots0, V.copy, cond_false, eq_self, reduceIte, reduceCtorEq, Nat.reduceBEq, Nat.reduceLT, Nat.reduceEqDiff, hnil, bs_size, decide_eq_true h16']
      rw [decide_eq_false h16, Bool.and_false, Bool.false_and]
      first | exact fin_ret hb rfl rfl List.take_length ⟨rfl, rfl⟩ | exact fin_ret hb rfl rfl List.take_left ⟨rfl, rfl⟩
theorem dec_len : ∀ (k u : Nat), u < 10 ^ (k + 1) → (Lib.decDigits u).length ≤ k + 1
  | 0, u, h => by rw [Lib.decDigits, dif_pos (by simpa using h)]; exact Nat.le_refl _
  | k + 1, u, h => by
    rw [Lib.decDigits]
    split
    · simp
    · rw [List.length_append]
      have := dec_len k (u / 10) (by rw [Nat.pow_succ] at h; omega)
      simp; omega
theorem itoa_len (n : Int) (h0 : 0 ≤ n) (h1 : n ≤ 2147483647) : (Lib.itoa n).length ≤ 10 := by
  unfold Lib.itoa
  rw [if_neg (by omega)]
  exact dec_len 9 _ (by omega)
def tokA (t : Tok) : V := .agg [.d (dint t.kind), .d (dint t.num), .d (dstr t.text), .d (dint t.line)]
theorem vTok_num (n : Int) (l : Bs) (ln : Int) (h0 : 0 ≤ n) : vTok ⟨3, n, bs l, ln⟩ = (decide (n ≤ 2147483647) && decide (bs l = bs (Lib.itoa n))) := by
  have e : Lib.itoa n = Lib.decDigits n.toNat := by unfold Lib.itoa; rw [if_neg (by omega)]
  unfold vTok
  rw [if_pos rfl, e, bs_list, bs_dec, decide_eq_true h0, Bool.true_and]
  show (decide (n ≤ 2147483647) && (l == Lib.decDigits n.toNat)) = _
  congr 1
  rw [Bool.eq_iff_iff]; simp
theorem vTok_neg (n : Int) (l : Bs) (ln : Int) (h0 : ¬ 0 ≤ n) : vTok ⟨3, n, bs l, ln⟩ = false := by
  unfold vTok
  rw [if_pos rfl, decide_eq_false h0]; rfl
theorem vTok1 (n : Int) (l : Bs) (ln : Int) : vTok ⟨1, n, bs l, ln⟩ = (decide (n = 0) && nameB (bs l)) := rfl
theorem vTok2 (n : Int) (l : Bs) (ln : Int) : vTok ⟨2, n, bs l, ln⟩ = (decide (n = 0) && inB (bs l) kwList) := rfl
theorem vTok4 (n : Int) (l : Bs) (ln : Int) : vTok ⟨4, n, bs l, ln⟩ = (decide (n = 0) && markList.contains l) := by
  unfold vTok
  rw [if_neg (by show ¬ (4 : Int) = 3; decide), if_neg (by show ¬ (4 : Int) = 1; decide), if_neg (by show ¬ (4 : Int) = 2; decide), if_pos rfl, bs_list]
theorem vTok0 (k n : Int) (l : Bs) (ln : Int) (h1 : ¬ k = 1) (h2 : ¬ k = 2) (h3 : ¬ k = 3) (h4 : ¬ k = 4) : vTok ⟨k, n, bs l, ln⟩ = false := by
  unfold vTok
  rw [if_neg h3, if_neg h1, if_neg h2, if_neg h4]
theorem lxvalid_fun' (k n : Int) (l : Bs) (ln : Int) (σ : List (List V)) : Fun G 170 [tokA ⟨k, n, bs l, ln⟩] σ (RetV (.d (.lit (.bool (vTok ⟨k, n, bs l, ln⟩)))) σ) := by
  unfold tokA
  refine fun_code Tryz.func170 k170 rfl fun hb hw => ?_
  have hn := wf_int (wf_cell (hw 0 (by simp)) 1 (by simp))
  delta c170 oM oV kI kS kT kF
  by_cases h3 : k = 3
  · subst h3
    by_cases h0 : 0 ≤ n
    · rw [vTok_num n l ln h0]
      by_cases hm : n ≤ 2147483647
      · simp -dsimp -implicitDefEqProofs only [aw, slots0, V.copy, V.lend, V.cells, V.boxable, Nat.reduceLeDiff, cond_true, eq_self, reduceIte, reduceCtorEq, Nat.reduceBEq, Nat.reduceLT, Nat.reduceEqDiff, Nat.reduceAdd, decide_true, decide_eq_true h0, decide_eq_true hm]
        refine calm_ret (fun_itoa n (by omega) (by omega) (by have := itoa_len n h0 hm; unfold maxLen; omega) _) ?_
        simp -dsimp -implicitDefEqProofs only [aw, V.copy, cond_true, eq_self, reduceIte, Nat.reduceBEq, Nat.reduceLT, Nat.reduceEqDiff, bs_dec]
        rw [decide_eq_true hm, Bool.true_and]
        exact fin_ret hb rfl rfl List.take_left ⟨rfl, rfl⟩
      · simp -dsimp -implicitDefEqProofs only [aw, slots0, V.copy, V.cells, V.boxable, Nat.reduceLeDiff, cond_true, eq_self, reduceIte, reduceCtorEq, Nat.reduceBEq, Nat.reduceLT, Nat.reduceEqDiff, Nat.reduceAdd, decide_true, decide_eq_true h0, decide_eq_false hm]
        exact fin_ret hb rfl rfl List.take_left ⟨rfl, rfl⟩
    · rw [vTok_neg n l ln h0]
      simp -dsimp -implicitDefEqProofs only [aw, slots0, V.copy, V.cells, V.boxable, Nat.reduceLeDiff, eq_self, reduceIte, reduceCtorEq, Nat.reduceBEq, Nat.reduceLT, Nat.reduceEqDiff, Nat.reduceAdd, decide_true, decide_eq_false h0]
      exact fin_ret hb rfl rfl List.take_left ⟨rfl, rfl⟩
  by_cases h1 : k = 1
  · subst h1
    rw [vTok1]
    by_cases hz : n = 0
    · simp -dsimp -implicitDefEqProofs only [aw, slots0, V.copy, V.lend, V.cells, V.boxable, Nat.reduceLeDiff, eq_self, reduceIte, reduceCtorEq, Nat.reduceBEq, Nat.reduceLT, Nat.reduceEqDiff, Nat.reduceAdd, Int.reduceEq, decide_true, decide_false, decide_eq_true hz]
      refine fun_ret (fun_isname l _) ?_
      simp -dsimp -implicitDefEqProofs only [aw, V.copy, cond_true, eq_self, reduceIte, Nat.reduceBEq, Nat.reduceLT, Nat.reduceEqDiff]
      rw [decide_eq_true hz, Bool.true_and]
      exact fin_ret hb rfl rfl List.take_left ⟨rfl, rfl⟩
    · simp -dsimp -implicitDefEqProofs only [aw, slots0, V.copy, V.cells, V.boxable, Nat.reduceLeDiff, eq_self, reduceIte, reduceCtorEq, Nat.reduceBEq, Nat.reduceLT, Nat.reduceEqDiff, Nat.reduceAdd, Int.reduceEq, decide_true, decide_false, decide_eq_false hz]
      exact fin_ret hb rfl rfl List.take_left ⟨rfl, rfl⟩
  by_cases h2 : k = 2
  · subst h2
    rw [vTok2]
    by_cases hz : n = 0
    · simp -dsimp -implicitDefEqProofs only [aw, slots0, V.copy, V.lend, V.cells, V.boxable, Nat.reduceLeDiff, eq_self, reduceIte, reduceCtorEq, Nat.reduceBEq, Nat.reduceLT, Nat.reduceEqDiff, Nat.reduceAdd, Int.reduceEq, decide_true, decide_false, decide_eq_true hz]
      refine fun_ret (fun_iskw l _) ?_
      simp -dsimp -implicitDefEqProofs only [aw, V.copy, cond_true, eq_self, reduceIte, Nat.reduceBEq, Nat.reduceLT, Nat.reduceEqDiff]
      rw [decide_eq_true hz, Bool.true_and]
      exact fin_ret hb rfl rfl List.take_left ⟨rfl, rfl⟩
    · simp -dsimp -implicitDefEqProofs only [aw, slots0, V.copy, V.cells, V.boxable, Nat.reduceLeDiff, eq_self, reduceIte, reduceCtorEq, Nat.reduceBEq, Nat.reduceLT, Nat.reduceEqDiff, Nat.reduceAdd, Int.reduceEq, decide_true, decide_false, decide_eq_false hz]
      exact fin_ret hb rfl rfl List.take_left ⟨rfl, rfl⟩
  by_cases h4 : k = 4
  · subst h4
    rw [vTok4]
    by_cases hz : n = 0
    · simp -dsimp -implicitDefEqProofs only [aw, slots0, V.copy, V.lend, V.cells, V.boxable, Nat.reduceLeDiff, eq_self, reduceIte, reduceCtorEq, Nat.reduceBEq, Nat.reduceLT, Nat.reduceEqDiff, Nat.reduceAdd, Int.reduceEq, decide_true, decide_false, decide_eq_true hz]
      refine fun_ret (fun_ismark l _) ?_
      simp -dsimp -implicitDefEqProofs only [aw, V.copy, cond_true, eq_self, reduceIte, Nat.reduceBEq, Nat.reduceLT, Nat.reduceEqDiff]
      rw [decide_eq_true hz, Bool.true_and]
      exact fin_ret hb rfl rfl List.take_left ⟨rfl, rfl⟩
    · simp -dsimp -implicitDefEqProofs only [aw, slots0, V.copy, V.cells, V.boxable, Nat.reduceLeDiff, eq_self, reduceIte, reduceCtorEq, Nat.reduceBEq, Nat.reduceLT, Nat.reduceEqDiff, Nat.reduceAdd, Int.reduceEq, decide_true, decide_false, decide_eq_false hz]
      exact fin_ret hb rfl rfl List.take_left ⟨rfl, rfl⟩
  rw [vTok0 k n l ln h1 h2 h3 h4]
  simp -dsimp -implicitDefEqProofs only [aw, slots0, V.copy, V.cells, V.boxable, Nat.reduceLeDiff, eq_self, reduceIte, reduceCtorEq, Nat.reduceBEq, Nat.reduceLT, Nat.reduceEqDiff, Nat.reduceAdd, decide_eq_false h1, decide_eq_false h2, decide_eq_false h3, decide_eq_false h4]
  exact fin_ret hb rfl rfl List.take_left ⟨rfl, rfl⟩
end Go.Proofs.YteopfpebdalcoaaGreatDoor
