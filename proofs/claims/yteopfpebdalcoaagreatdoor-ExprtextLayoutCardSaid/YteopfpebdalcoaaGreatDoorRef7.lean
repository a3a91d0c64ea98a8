/-
  The reference's reader of sources, in the plain world: bytes, places, lines, blanks.
-/
import Derived.Test.YteopfpebdalcoaaGreatDoorElem
set_option linter.unusedVariables false
set_option linter.unusedSimpArgs false
set_option linter.unusedSectionVars false
namespace Go.Proofs.YteopfpebdalcoaaGreatDoor
open Go.RowKit
theorem tw_lt {q : UInt8 → Bool} : ∀ {l : Bs} {j : Nat}, j < (l.takeWhile q).length → ∃ c, l[j]? = some c ∧ q c = true
  | [], j, h => by simp at h
  | a :: l, j, h => by
    by_cases ha : q a = true
    · rw [List.takeWhile_cons_of_pos ha] at h
      cases j with
      | zero => exact ⟨a, rfl, ha⟩
      | succ j => obtain ⟨c, h1, h2⟩ := tw_lt (l := l) (j := j) (by simpa using h); exact ⟨c, by simpa using h1, h2⟩
    · rw [List.takeWhile_cons_of_neg ha] at h; simp at h
theorem tw_end {q : UInt8 → Bool} : ∀ l : Bs, (l.takeWhile q).length = l.length ∨ ∃ c, l[(l.takeWhile q).length]? = some c ∧ q c = false
  | [] => .inl rfl
  | a :: l => by
    by_cases ha : q a = true
    · rw [List.takeWhile_cons_of_pos ha]
      rcases tw_end (q := q) l with h | ⟨c, h1, h2⟩
      · left; simp [h]
      · right; exact ⟨c, by simpa using h1, h2⟩
    · rw [List.takeWhile_cons_of_neg ha]
      exact .inr ⟨a, rfl, by simpa using ha⟩
theorem tw_len {q : UInt8 → Bool} (l : Bs) : (l.takeWhile q).length ≤ l.length := (List.takeWhile_prefix _).length_le
theorem u8_eq (c : UInt8) (k : Nat) (hk : k < 256) : decide ((c.toNat : Int) = (k : Nat)) = (c == UInt8.ofNat k) := by
  rw [Bool.eq_iff_iff]
  simp only [decide_eq_true_eq, beq_iff_eq]
  constructor
  · intro h; apply UInt8.toNat_inj.1; simp [UInt8.toNat_ofNat']; omega
  · intro h; subst h; simp [UInt8.toNat_ofNat']; omega
theorem u8_32 (c : UInt8) : decide ((c.toNat : Int) = 32) = (c == 32) := u8_eq c 32 (by decide)
theorem u8_9 (c : UInt8) : decide ((c.toNat : Int) = 9) = (c == 9) := u8_eq c 9 (by decide)
theorem u8_10 (c : UInt8) : decide ((c.toNat : Int) = 10) = (c == 10) := u8_eq c 10 (by decide)
theorem u8_48 (c : UInt8) : decide ((c.toNat : Int) = 48) = (c == 48) := u8_eq c 48 (by decide)
theorem u8_45 (c : UInt8) : decide ((c.toNat : Int) = 45) = (c == 45) := u8_eq c 45 (by decide)
theorem r7small_fun (c : Int) (σ : List (List V)) : Fun G 50 [.d (.lit (.int .u8 c))] σ (RetV (.d (.lit (.bool (lowB c)))) σ) := by
  refine fun_code Tryz.func50 k50 rfl fun hb hw => ?_
  delta c50 oM oV kI kS kT kF; unfold lowB
  by_cases h1 : 97 ≤ c <;> by_cases h2 : c ≤ 122
  all_goals
    simp -dsimp -implicitDefEqProofs only [aw, slots0, V.copy, cond_true, eq_self, reduceIte, reduceCtorEq, Nat.reduceBEq, Nat.reduceLT, Nat.reduceEqDiff, h1, h2, decide_true, decide_false]
    first | exact fin_ret hb rfl rfl List.take_length ⟨rfl, rfl⟩
theorem r7digit_fun (c : Int) (σ : List (List V)) : Fun G 53 [.d (.lit (.int .u8 c))] σ (RetV (.d (.lit (.bool (digB c)))) σ) := by
  refine fun_code Tryz.func53 k53 rfl fun hb hw => ?_
  delta c53 oM oV kI kS kT kF; unfold digB
  by_cases h1 : 48 ≤ c <;> by_cases h2 : c ≤ 57
  all_goals
    simp -dsimp -implicitDefEqProofs only [aw, slots0, V.copy, cond_true, eq_self, reduceIte, reduceCtorEq, Nat.reduceBEq, Nat.reduceLT, Nat.reduceEqDiff, h1, h2, decide_true, decide_false]
    first | exact fin_ret hb rfl rfl List.take_length ⟨rfl, rfl⟩
theorem r7inner_fun (c : Int) (σ : List (List V)) : Fun G 90 [.d (.lit (.int .u8 c))] σ (RetV (.d (.lit (.bool (folB c)))) σ) := by
  refine fun_code Tryz.func90 k90 rfl fun hb hw => ?_
  delta c90 oM oV kI kS kT kF; unfold folB
  simp -dsimp -implicitDefEqProofs only [aw, slots0, V.copy, V.lend, eq_self, reduceIte, reduceCtorEq, Nat.reduceBEq, Nat.reduceLT]
  refine fun_ret (r7small_fun c _) ?_
  cases lowB c with
  | true =>
    simp -dsimp -implicitDefEqProofs only [aw, V.copy, eq_self, reduceIte, reduceCtorEq, Nat.reduceBEq, Nat.reduceLT, Nat.reduceEqDiff]
    exact fin_ret hb rfl rfl List.take_length ⟨rfl, rfl⟩
  | false =>
    simp -dsimp -implicitDefEqProofs only [aw, V.copy, V.lend, eq_self, reduceIte, reduceCtorEq, Nat.reduceLT, Nat.reduceEqDiff]
    refine fun_ret (r7digit_fun c _) ?_
    cases digB c with
    | true =>
      simp -dsimp -implicitDefEqProofs only [aw, V.copy, cond_false, eq_self, reduceIte, reduceCtorEq, Nat.reduceBEq, Nat.reduceLT, Nat.reduceEqDiff]
      exact fin_ret hb rfl rfl List.take_length ⟨rfl, rfl⟩
    | false =>
      unfold uppB
      cases e1 : decide (65 ≤ c) <;> cases e2 : decide (c ≤ 90) <;> cases e3 : decide (c = 95)
      all_goals
        simp -dsimp -implicitDefEqProofs only [aw, V.copy, cond_true, cond_false, eq_self, reduceIte, reduceCtorEq, Nat.reduceBEq, Nat.reduceLT, Nat.reduceEqDiff, e1, e2, e3]
        first | exact fin_ret hb rfl rfl List.take_length ⟨rfl, rfl⟩
theorem r7has_fun (l : List ByteArray) (s : ByteArray) (hl : l.length ≤ 1000000) (σ : List (List V)) : Fun G 91 [.d (dstrs l), .d (dstr s)] σ (RetV (.d (.lit (.bool (inB s l)))) σ) := by
  refine fun_code Tryz.func91 k91 rfl fun hb hw => ?_
  delta c91 oM oV kI kS kT kF
  simp -dsimp -implicitDefEqProofs only [aw, slots0, V.copy, eq_self, reduceIte, reduceCtorEq, Nat.reduceBEq, Nat.reduceLT, Nat.reduceEqDiff]
  refine awp_for (R := fun (j : Nat) ρ σ' => ρ = [(0, .d (dstrs l)), (1, .d (dstr s)), (5, vint .i64 j)] ∧ σ' = σ ∧ inB s l = inB s (l.drop j)) l.length ⟨rfl, rfl, rfl⟩ ?_ _
  rintro j ρ' σ' hj ⟨rfl, rfl, hr⟩
  by_cases hlt : j < l.length
  · have hd : inB s (l.drop j) = (decide (l[j] = s) || inB s (l.drop (j + 1))) := by rw [List.drop_eq_getElem_cons hlt]; rfl
    by_cases he : l[j] = s
    · simp -dsimp -implicitDefEqProofs only [aw, V.copy, Nat.reduceLeDiff, eq_self, reduceIte, reduceCtorEq, Nat.reduceBEq, Nat.reduceLT, Nat.reduceEqDiff, dstrs, Int.ofNat_lt, hlt, decide_true, List.getElem?_eq_getElem hlt, decide_eq_true he]
      rw [hd, decide_eq_true he] at hr
      exact fin_ret hb rfl rfl List.take_length ⟨by rw [hr]; rfl, rfl⟩
    · simp -dsimp -implicitDefEqProofs only [aw, V.copy, Nat.reduceLeDiff, eq_self, reduceIte, reduceCtorEq, Nat.reduceBEq, Nat.reduceLT, Nat.reduceEqDiff, dstrs, Int.ofNat_lt, hlt, decide_true, List.getElem?_eq_getElem hlt, decide_eq_false he, wrap_nat hlt (show l.length ≤ 9223372036854775807 by omega)]
      rw [hd, decide_eq_false he, Bool.false_or] at hr
      exact Nxt.same (Nat.le_refl _) hb rfl ⟨rfl, rfl, hr⟩
  · simp -dsimp -implicitDefEqProofs only [aw, V.copy, eq_self, reduceIte, reduceCtorEq, Nat.reduceBEq, Nat.reduceLT, Nat.reduceEqDiff, dstrs, Int.ofNat_lt, hlt, decide_false]
    rw [List.drop_eq_nil_of_le (by omega)] at hr
    exact fin_ret hb rfl rfl List.take_length ⟨by rw [hr]; rfl, rfl⟩
theorem r7keywords_fun (σ : List (List V)) : Fun G 92 [] σ (RetV (.d (dstrs kwList)) σ) := by
  refine fun_code Tryz.func92 k92 rfl fun hb hw => ?_
  delta c92 oM oV kI kS kT kF
  simp -dsimp -implicitDefEqProofs only [aw, slots0, V.copy, V.cells, rowsOf, plains, V.plain, eq_self, reduceIte, reduceCtorEq, Nat.reduceBEq, Nat.reduceLT]
  exact fin_ret hb rfl rfl List.take_length ⟨rfl, rfl⟩
def markSs : List ByteArray := markList.map bs
theorem r7marks_fun (σ : List (List V)) : Fun G 96 [] σ (RetV (.d (dstrs markSs)) σ) := by
  refine fun_code Tryz.func96 k96 rfl fun hb hw => ?_
  delta c96 oM oV kI kS kT kF
  simp -dsimp -implicitDefEqProofs only [aw, slots0, V.copy, V.cells, rowsOf, plains, V.plain, eq_self, reduceIte, reduceCtorEq, Nat.reduceBEq, Nat.reduceLT]
  exact fin_ret hb rfl rfl List.take_length ⟨rfl, rfl⟩
theorem r7iskw_fun (s : ByteArray) (σ : List (List V)) : Fun G 52 [.d (dstr s)] σ (RetV (.d (.lit (.bool (inB s kwList)))) σ) := by
  refine fun_code Tryz.func52 k52 rfl fun hb hw => ?_
  delta c52 oM oV kI kS kT kF
  simp -dsimp -implicitDefEqProofs only [aw, slots0, V.copy, V.lend, eq_self, reduceIte, reduceCtorEq, Nat.reduceBEq, Nat.reduceLT]
  refine fun_ret (r7keywords_fun _) ?_
  simp -dsimp -implicitDefEqProofs only [aw, V.copy, V.lend, eq_self, reduceIte, reduceCtorEq, Nat.reduceLT, Nat.reduceEqDiff]
  refine fun_ret (r7has_fun kwList s (by decide) _) ?_
  simp -dsimp -implicitDefEqProofs only [aw, V.copy, eq_self, reduceIte, reduceCtorEq, Nat.reduceBEq, Nat.reduceLT, Nat.reduceEqDiff]
  exact fin_ret hb rfl rfl List.take_length ⟨rfl, rfl⟩
theorem r7ismark_fun (s : ByteArray) (σ : List (List V)) : Fun G 58 [.d (dstr s)] σ (RetV (.d (.lit (.bool (inB s markSs)))) σ) := by
  refine fun_code Tryz.func58 k58 rfl fun hb hw => ?_
  delta c58 oM oV kI kS kT kF
  simp -dsimp -implicitDefEqProofs only [aw, slots0, V.copy, V.lend, eq_self, reduceIte, reduceCtorEq, Nat.reduceBEq, Nat.reduceLT]
  refine fun_ret (r7marks_fun _) ?_
  simp -dsimp -implicitDefEqProofs only [aw, V.copy, V.lend, eq_self, reduceIte, reduceCtorEq, Nat.reduceLT, Nat.reduceEqDiff]
  refine fun_ret (r7has_fun markSs s (by decide) _) ?_
  simp -dsimp -implicitDefEqProofs only [aw, V.copy, eq_self, reduceIte, reduceCtorEq, Nat.reduceBEq, Nat.reduceLT, Nat.reduceEqDiff]
  exact fin_ret hb rfl rfl List.take_length ⟨rfl, rfl⟩
theorem pre_take (m r : Bs) : m.isPrefixOf r = (decide (m.length ≤ r.length) && decide (r.take m.length = m)) := by
  rw [Bool.eq_iff_iff]
  simp only [List.isPrefixOf_iff_prefix, Bool.and_eq_true, decide_eq_true_eq]
  exact ⟨fun h => ⟨h.length_le, (List.prefix_iff_eq_take.1 h).symm⟩, fun h => List.prefix_iff_eq_take.2 h.2.symm⟩
theorem sub_bs (l : Bs) (a n : Nat) (h : a + n ≤ l.length) : subV true 0 (V.d (dstr (bs l))) (some (V.d (dint (a : Int)))) (some (V.d (dint ((a + n : Nat) : Int)))) = some (V.d (dstr (bs ((l.drop a).take n)))) := by
  have e : (bs l).extract a (a + n) = bs ((l.drop a).take n) := by
    rw [Lib.extract_eq, bs_list]
    unfold bs
    rw [Nat.add_sub_cancel_left]
  have h2 : (0 : Int) ≤ ((a + n : Nat) : Int) := by omega
  have h3 : (0 : Int) ≤ ((a : Nat) : Int) := by omega
  simp only [subV, boundV, if_pos h2, if_pos h3, Int.toNat_natCast, bs_size, h, Nat.le_add_right, and_self, if_true, e]
theorem r7starts_fun (l m : Bs) (a : Nat) (ha : a ≤ l.length) (hl : l.length ≤ 1000000) (hm : m.length ≤ 1000000) (σ : List (List V)) : Fun G 49 [.d (dstr (bs l)), .d (dint a), .d (dstr (bs m))] σ (RetV (.d (.lit (.bool (m.isPrefixOf (l.drop a))))) σ) := by
  refine fun_code Tryz.func49 k49 rfl fun hb hw => ?_
  delta c49 oM oV kI kS kT kF
  have w1 : IntKind.i64.wrap (((l.length : Nat) : Int) - (a : Nat)) = ((l.length - a : Nat) : Int) := by rw [wrap_i64 (by omega) (by omega)]; omega
  have w2 : IntKind.i64.wrap (((a : Nat) : Int) + (m.length : Nat)) = ((a + m.length : Nat) : Int) := by rw [wrap_i64 (by omega) (by omega)]; omega
  have hp := pre_take m (l.drop a)
  rw [List.length_drop] at hp
  by_cases hc : m.length ≤ l.length - a
  · simp -dsimp -implicitDefEqProofs only [aw, slots0, V.copy, cond_true, eq_self, reduceIte, reduceCtorEq, Nat.reduceBEq, Nat.reduceLT, Nat.reduceEqDiff, Nat.reduceAdd, bs_size, w1, w2, Int.ofNat_le, hc, decide_true, sub_bs l a m.length (by omega), bs_dec]
    rw [decide_eq_true hc, Bool.true_and] at hp
    exact fin_ret hb rfl rfl List.take_length ⟨by rw [hp]; rfl, rfl⟩
  · simp -dsimp -implicitDefEqProofs only [aw, slots0, V.copy, eq_self, reduceIte, reduceCtorEq, Nat.reduceBEq, Nat.reduceLT, Nat.reduceEqDiff, Nat.reduceAdd, bs_size, w1, Int.ofNat_le, hc, decide_false]
    rw [decide_eq_false hc, Bool.false_and] at hp
    exact fin_ret hb rfl rfl List.take_length ⟨by rw [hp]; rfl, rfl⟩
theorem r7behind_fun (l : Bs) (a : Nat) (ha : a ≤ l.length) (hl : l.length ≤ 1000000) (σ : List (List V)) : Fun G 51 [.d (dstr (bs l)), .d (dint a)] σ (RetV (.d (dint ((a + ((l.drop a).takeWhile inn).length : Nat) : Int))) σ) := by
  refine fun_code Tryz.func51 k51 rfl fun hb hw => ?_
  delta c51 oM oV kI kS kT kF
  have hle := tw_len (q := inn) (l.drop a)
  have hd := List.length_drop (l := l) (i := a)
  have he := tw_end (q := inn) (l.drop a)
  have ht := fun j => @tw_lt inn (l.drop a) j
  generalize ((l.drop a).takeWhile inn).length = K at *
  simp -dsimp -implicitDefEqProofs only [aw, slots0, V.copy, eq_self, reduceIte, reduceCtorEq, Nat.reduceBEq, Nat.reduceLT, Nat.reduceEqDiff]
  refine awp_for (R := fun (j : Nat) ρ σ' => ρ = [(0, .d (dstr (bs l))), (1, vint .i64 ((a + j : Nat) : Int))] ∧ σ' = σ) K ⟨rfl, rfl⟩ ?_ _
  rintro j ρ' σ' hj ⟨rfl, rfl⟩
  have w1 : IntKind.i64.wrap (((a + j : Nat) : Int) + 1) = ((a + (j + 1) : Nat) : Int) := by rw [wrap_i64 (by omega) (by omega)]; omega
  by_cases hlt : j < K
  · obtain ⟨c, h1, h2⟩ := ht j hlt
    rw [List.getElem?_drop] at h1
    have hx : a + j < l.length := by omega
    simp -dsimp -implicitDefEqProofs only [aw, V.copy, V.lend, eq_self, reduceIte, reduceCtorEq, Nat.reduceLT, Nat.reduceEqDiff, bs_size, Int.ofNat_lt, hx, decide_true, bs_list, h1]
    refine fun_ret (r7inner_fun _ _) ?_
    rw [show folB (c.toNat : Int) = true from h2]
    simp -dsimp -implicitDefEqProofs only [aw, V.copy, cond_true, eq_self, reduceIte, reduceCtorEq, Nat.reduceBEq, Nat.reduceLT, Nat.reduceEqDiff, w1]
    exact ⟨hlt, Nxt.same (Nat.le_refl _) hb rfl ⟨rfl, rfl⟩⟩
  · have hjk : j = K := by omega
    subst hjk
    rcases he with he | ⟨c, h1, h2⟩
    · have hx : ¬ a + j < l.length := by omega
      simp -dsimp -implicitDefEqProofs only [aw, V.copy, eq_self, reduceIte, reduceCtorEq, Nat.reduceBEq, Nat.reduceLT, Nat.reduceEqDiff, bs_size, Int.ofNat_lt, hx, decide_false]
      exact fin_ret hb rfl rfl List.take_length ⟨rfl, rfl⟩
    · rw [List.getElem?_drop] at h1
      have hx : a + j < l.length := (List.getElem?_eq_some_iff.1 h1).1
      simp -dsimp -implicitDefEqProofs only [aw, V.copy, V.lend, eq_self, reduceIte, reduceCtorEq, Nat.reduceLT, Nat.reduceEqDiff, bs_size, Int.ofNat_lt, hx, decide_true, bs_list, h1]
      refine fun_ret (r7inner_fun _ _) ?_
      rw [show folB (c.toNat : Int) = false from h2]
      simp -dsimp -implicitDefEqProofs only [aw, V.copy, cond_true, eq_self, reduceIte, reduceCtorEq, Nat.reduceBEq, Nat.reduceLT, Nat.reduceEqDiff]
      exact fin_ret hb rfl rfl List.take_length ⟨rfl, rfl⟩
theorem r7line_fun (l : Bs) (a : Nat) (ha : a ≤ l.length) (hl : l.length ≤ 1000000) (σ : List (List V)) : Fun G 26 [.d (dstr (bs l)), .d (dint a)] σ (RetV (.d (dint (1 + ((l.take a).count 10 : Nat)))) σ) := by
  refine fun_code Tryz.func26 k26 rfl fun hb hw => ?_
  delta c26 oM oV kI kS kT kF
  simp -dsimp -implicitDefEqProofs only [aw, slots0, V.copy, eq_self, reduceIte, reduceCtorEq, Nat.reduceBEq, Nat.reduceLT, Nat.reduceEqDiff]
  refine awp_for (R := fun (j : Nat) ρ σ' => ρ = [(0, .d (dstr (bs l))), (1, vint .i64 a), (5, vint .i64 (1 + ((l.take j).count 10 : Nat))), (6, vint .i64 j)] ∧ σ' = σ) a ⟨rfl, rfl⟩ ?_ _
  rintro j ρ' σ' hj ⟨rfl, rfl⟩
  by_cases hlt : j < a
  · have hx : j < l.length := by omega
    have hct : (l.take (j + 1)).count 10 = (l.take j).count 10 + if (l[j] == 10) = true then 1 else 0 := by
      rw [List.take_add_one, List.getElem?_eq_getElem hx, List.count_append, Option.toList_some, List.count_cons, List.count_nil, Nat.zero_add]
    have hcl : (l.take j).count 10 ≤ l.length := Nat.le_trans List.count_le_length (by rw [List.length_take]; omega)
    have w1 : IntKind.i64.wrap (1 + ((List.count 10 (List.take j l) : Nat) : Int) + 1) = 1 + ((List.count 10 (List.take j l) + 1 : Nat) : Int) := by rw [wrap_i64 (by omega) (by omega)]; omega
    cases h10 : (l[j] == 10) with
    | true =>
      rw [h10, if_pos rfl] at hct
      simp -dsimp -implicitDefEqProofs only [aw, V.copy, eq_self, reduceIte, reduceCtorEq, Nat.reduceBEq, Nat.reduceLT, Nat.reduceEqDiff, Int.ofNat_lt, hlt, decide_true, bs_list, List.getElem?_eq_getElem hx, u8_10, h10, w1, wrap_nat hlt (show a ≤ 9223372036854775807 by omega)]
      exact Nxt.same (Nat.le_refl _) hb rfl ⟨by rw [hct], rfl⟩
    | false =>
      rw [h10, if_neg Bool.false_ne_true] at hct
      simp -dsimp -implicitDefEqProofs only [aw, V.copy, eq_self, reduceIte, reduceCtorEq, Nat.reduceBEq, Nat.reduceLT, Nat.reduceEqDiff, Int.ofNat_lt, hlt, decide_true, bs_list, List.getElem?_eq_getElem hx, u8_10, h10, wrap_nat hlt (show a ≤ 9223372036854775807 by omega)]
      exact Nxt.same (Nat.le_refl _) hb rfl ⟨by rw [hct]; rfl, rfl⟩
  · have hja : j = a := by omega
    subst hja
    simp -dsimp -implicitDefEqProofs only [aw, V.copy, eq_self, reduceIte, reduceCtorEq, Nat.reduceBEq, Nat.reduceLT, Nat.reduceEqDiff, Int.lt_irrefl, decide_false]
    exact fin_ret hb rfl rfl List.take_length ⟨rfl, rfl⟩
end Go.Proofs.YteopfpebdalcoaaGreatDoor
