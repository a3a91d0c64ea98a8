/-
  The reference's numbers in the plain world: sums, products by ten, numerals.
-/
import Derived.Test.YteopfpebdalcoaaGreatDoorRef7
set_option linter.unusedVariables false
set_option linter.unusedSimpArgs false
set_option linter.unusedSectionVars false
namespace Go.Proofs.YteopfpebdalcoaaGreatDoor
open Go.RowKit
def ovV (x : Int) : V := if -9223372036854775808 ≤ x ∧ x ≤ 9223372036854775807 then .tup [.d (dint x), .d (dint 0)] else .tup [.d (dint 0), .d (dint 3)]
theorem ovV_yes {x : Int} (h1 : -9223372036854775808 ≤ x) (h2 : x ≤ 9223372036854775807) : ovV x = .tup [.d (dint x), .d (dint 0)] := if_pos ⟨h1, h2⟩
theorem ovV_no {x : Int} (h : x < -9223372036854775808 ∨ 9223372036854775807 < x) : ovV x = .tup [.d (dint 0), .d (dint 3)] := if_neg (by omega)
theorem r1below_fun (n : Int) (h0 : -9223372036854775808 ≤ n) (h1 : n ≤ 9223372036854775807) (σ : List (List V)) : Fun G 97 [.d (dint n)] σ (RetV (.d (dint (-(n.natAbs : Int)))) σ) := by
  refine fun_code Tryz.func97 k97 rfl fun hb hw => ?_
  delta c97 oM oV kI kS kT kF
  by_cases h : 0 < n
  · have w : IntKind.i64.wrap (0 - n) = -(n.natAbs : Int) := by rw [wrap_i64 (by omega) (by omega)]; omega
    simp -dsimp -implicitDefEqProofs only [aw, slots0, V.copy, eq_self, reduceIte, reduceCtorEq, Nat.reduceBEq, Nat.reduceLT, Nat.reduceEqDiff, decide_eq_true h, w]
    first | exact fin_ret hb rfl rfl List.take_length ⟨rfl, rfl⟩ | exact fin_ret hb rfl rfl List.take_left ⟨rfl, rfl⟩
  · have w : n = -(n.natAbs : Int) := by omega
    simp -dsimp -implicitDefEqProofs only [aw, slots0, V.copy, eq_self, reduceIte, reduceCtorEq, Nat.reduceBEq, Nat.reduceLT, Nat.reduceEqDiff, decide_eq_false h]
    rw [← w]
    first | exact fin_ret hb rfl rfl List.take_length ⟨rfl, rfl⟩ | exact fin_ret hb rfl rfl List.take_left ⟨rfl, rfl⟩
theorem wrap_cases (x : Int) (h0 : -18446744073709551616 ≤ x) (h1 : x ≤ 18446744073709551616) : (-9223372036854775808 ≤ x ∧ x ≤ 9223372036854775807 ∧ IntKind.i64.wrap x = x) ∨ (x < -9223372036854775808 ∧ IntKind.i64.wrap x = x + 18446744073709551616) ∨ (9223372036854775807 < x ∧ IntKind.i64.wrap x = x - 18446744073709551616) := by
  by_cases a : x < -9223372036854775808
  · exact .inr (.inl ⟨a, by simp [IntKind.wrap, IntKind.bits, IntKind.signed]; split <;> omega⟩)
  · by_cases b : 9223372036854775807 < x
    · exact .inr (.inr ⟨b, by simp [IntKind.wrap, IntKind.bits, IntKind.signed]; split <;> omega⟩)
    · exact .inl ⟨by omega, by omega, wrap_i64 (by omega) (by omega)⟩
theorem r1Add_fun (a b : Int) (ha : -9223372036854775808 ≤ a) (ha' : a ≤ 9223372036854775807) (hb' : -9223372036854775808 ≤ b) (hb2 : b ≤ 9223372036854775807) (σ : List (List V)) : Fun G 119 [.d (dint a), .d (dint b)] σ (RetV (ovV (a + b)) σ) := by
  refine fun_code Tryz.func119 k119 rfl fun hb hw => ?_
  delta c119 oM oV kI kS kT kF
  have hc := wrap_cases (a + b) (by omega) (by omega)
  simp -dsimp -implicitDefEqProofs only [aw, slots0, V.copy, eq_self, reduceIte, reduceCtorEq, Nat.reduceBEq, Nat.reduceLT, Nat.reduceEqDiff]
  generalize IntKind.i64.wrap (a + b) = s at hc ⊢
  by_cases h1 : 0 < a <;> by_cases h2 : 0 < b <;> by_cases h3 : s < 0 <;> by_cases h4 : a < 0 <;> by_cases h5 : b < 0 <;> by_cases h6 : 0 ≤ s <;> try (exfalso; omega)
  all_goals
    simp -dsimp -implicitDefEqProofs only [aw, V.copy, cond_true, cond_false, eq_self, reduceIte, reduceCtorEq, Nat.reduceBEq, Nat.reduceLT, Nat.reduceEqDiff, h1, h2, h3, h4, h5, h6, decide_true, decide_false]
    first
      | (rw [ovV_no (by omega)]; exact fin_ret hb rfl rfl List.take_length ⟨rfl, rfl⟩)
      | (rw [ovV_yes (by omega) (by omega), show a + b = s by omega]; exact fin_ret hb rfl rfl List.take_length ⟨rfl, rfl⟩)
theorem r1Sub_fun (a b : Int) (ha : -9223372036854775808 ≤ a) (ha' : a ≤ 9223372036854775807) (hb' : -9223372036854775808 ≤ b) (hb2 : b ≤ 9223372036854775807) (σ : List (List V)) : Fun G 95 [.d (dint a), .d (dint b)] σ (RetV (ovV (a - b)) σ) := by
  refine fun_code Tryz.func95 k95 rfl fun hb hw => ?_
  delta c95 oM oV kI kS kT kF
  by_cases h : b = -9223372036854775808
  · by_cases h1 : 0 ≤ a
    · simp -dsimp -implicitDefEqProofs only [aw, slots0, V.copy, eq_self, reduceIte, reduceCtorEq, Nat.reduceBEq, Nat.reduceLT, Nat.reduceEqDiff, decide_eq_true h, decide_eq_true h1]
      rw [ovV_no (by omega)]
      first | exact fin_ret hb rfl rfl List.take_length ⟨rfl, rfl⟩ | exact fin_ret hb rfl rfl List.take_left ⟨rfl, rfl⟩
    · simp -dsimp -implicitDefEqProofs only [aw, slots0, V.copy, eq_self, reduceIte, reduceCtorEq, Nat.reduceBEq, Nat.reduceLT, Nat.reduceEqDiff, decide_eq_true h, decide_eq_false h1, wrap_i64 (show -9223372036854775808 ≤ a - b by omega) (by omega)]
      rw [ovV_yes (by omega) (by omega)]
      first | exact fin_ret hb rfl rfl List.take_length ⟨rfl, rfl⟩ | exact fin_ret hb rfl rfl List.take_left ⟨rfl, rfl⟩
  · simp -dsimp -implicitDefEqProofs only [aw, slots0, V.copy, V.lend, eq_self, reduceIte, reduceCtorEq, Nat.reduceBEq, Nat.reduceLT, Nat.reduceEqDiff, decide_eq_false h, wrap_i64 (show -9223372036854775808 ≤ 0 - b by omega) (by omega)]
    refine fun_ret (r1Add_fun a (0 - b) ha ha' (by omega) (by omega) _) ?_
    rw [show a + (0 - b) = a - b by omega]
    by_cases hr : -9223372036854775808 ≤ a - b ∧ a - b ≤ 9223372036854775807
    · rw [ovV_yes hr.1 hr.2]
      simp -dsimp -implicitDefEqProofs only [aw, V.copy, eq_self, reduceIte, reduceCtorEq, Nat.reduceBEq, Nat.reduceLT, Nat.reduceEqDiff]
      first | exact fin_ret hb rfl rfl List.take_length ⟨rfl, rfl⟩ | exact fin_ret hb rfl rfl List.take_left ⟨rfl, rfl⟩
    · rw [ovV_no (by omega)]
      simp -dsimp -implicitDefEqProofs only [aw, V.copy, eq_self, reduceIte, reduceCtorEq, Nat.reduceBEq, Nat.reduceLT, Nat.reduceEqDiff]
      first | exact fin_ret hb rfl rfl List.take_length ⟨rfl, rfl⟩ | exact fin_ret hb rfl rfl List.take_left ⟨rfl, rfl⟩
theorem tdiv10 (x : Int) (h : x ≤ 0) : x.tdiv 10 = -((-x) / 10) := by
  have : x = -((-x)) := by omega
  rw [this, Int.neg_tdiv, Int.tdiv_eq_ediv_of_nonneg (by omega)]
  simp
theorem r1Mul10_fun (a : Int) (ha : -9223372036854775808 ≤ a) (ha' : a ≤ 0) (σ : List (List V)) : Fun G 94 [.d (dint a), .d (dint 10)] σ (RetV (ovV (a * 10)) σ) := by
  refine fun_code Tryz.func94 k94 rfl fun hb hw => ?_
  delta c94 oM oV kI kS kT kF
  by_cases h0 : a = 0
  · subst h0
    simp -dsimp -implicitDefEqProofs only [aw, slots0, V.copy, eq_self, reduceIte, reduceCtorEq, Nat.reduceBEq, Nat.reduceLT, Nat.reduceEqDiff, decide_true]
    rw [ovV_yes (by omega) (by omega)]
    first | exact fin_ret hb rfl rfl List.take_length ⟨rfl, rfl⟩ | exact fin_ret hb rfl rfl List.take_left ⟨rfl, rfl⟩
  · by_cases hr : -9223372036854775808 ≤ a * 10
    · have w := wrap_i64 hr (by omega)
      have hd : (a * 10).tdiv 10 = a := by rw [tdiv10 _ (by omega)]; omega
      have w2 := wrap_i64 ha (show a ≤ 9223372036854775807 by omega)
      rw [ovV_yes hr (by omega)]
      by_cases h1 : a = -1
      · simp -dsimp -implicitDefEqProofs only [aw, slots0, V.copy, cond_true, cond_false, eq_self, reduceIte, reduceCtorEq, Nat.reduceBEq, Nat.reduceLT, Nat.reduceEqDiff, decide_eq_false h0, w, hd, decide_eq_true h1, w2, Int.reduceEq, decide_true, decide_false]
        first | exact fin_ret hb rfl rfl List.take_length ⟨rfl, rfl⟩ | exact fin_ret hb rfl rfl List.take_left ⟨rfl, rfl⟩
      · simp -dsimp -implicitDefEqProofs only [aw, slots0, V.copy, cond_false, eq_self, reduceIte, reduceCtorEq, Nat.reduceBEq, Nat.reduceLT, Nat.reduceEqDiff, decide_eq_false h0, w, hd, decide_eq_false h1, w2, Int.reduceEq, decide_true, decide_false]
        first | exact fin_ret hb rfl rfl List.take_length ⟨rfl, rfl⟩ | exact fin_ret hb rfl rfl List.take_left ⟨rfl, rfl⟩
    · rw [ovV_no (by omega)]
      have h1 : ¬ a = -1 := by omega
      have hp : -9223372036854775808 ≤ IntKind.i64.wrap (a * 10) ∧ IntKind.i64.wrap (a * 10) ≤ 9223372036854775807 := by
        simp only [IntKind.wrap, IntKind.bits, IntKind.signed]; simp; split <;> omega
      have hd : ¬ IntKind.i64.wrap ((IntKind.i64.wrap (a * 10)).tdiv 10) = a := by
        generalize IntKind.i64.wrap (a * 10) = p at hp
        by_cases hp0 : p ≤ 0
        · rw [tdiv10 p hp0, wrap_i64 (by omega) (by omega)]; omega
        · rw [Int.tdiv_eq_ediv_of_nonneg (by omega), wrap_i64 (by omega) (by omega)]; omega
      simp -dsimp -implicitDefEqProofs only [aw, slots0, V.copy, cond_false, eq_self, reduceIte, reduceCtorEq, Nat.reduceBEq, Nat.reduceLT, Nat.reduceEqDiff, decide_eq_false h0, decide_eq_false h1, decide_eq_false hd, Int.reduceEq, decide_false]
      first | exact fin_ret hb rfl rfl List.take_length ⟨rfl, rfl⟩ | exact fin_ret hb rfl rfl List.take_left ⟨rfl, rfl⟩
theorem r1digits_fun (l : Bs) (hl : l.length ≤ 1000000) (σ : List (List V)) : Fun G 93 [.d (dstr (bs l))] σ (RetV (.d (.lit (.bool (l.all dig && decide (0 < l.length))))) σ) := by
  refine fun_code Tryz.func93 k93 rfl fun hb hw => ?_
  delta c93 oM oV kI kS kT kF
  simp -dsimp -implicitDefEqProofs only [aw, slots0, V.copy, eq_self, reduceIte, reduceCtorEq, Nat.reduceBEq, Nat.reduceLT]
  refine awp_for (R := fun (j : Nat) ρ σ' => ρ = [(0, .d (dstr (bs l))), (3, vint .i64 j)] ∧ σ' = σ ∧ l.all dig = (l.drop j).all dig) l.length ⟨rfl, rfl, rfl⟩ ?_ _
  rintro j ρ' σ' hj ⟨rfl, rfl, hr⟩
  by_cases hlt : j < l.length
  · have hd : (l.drop j).all dig = (dig l[j] && (l.drop (j + 1)).all dig) := by rw [List.drop_eq_getElem_cons hlt]; rfl
    have hdg : dig l[j] = (decide (48 ≤ (l[j].toNat : Int)) && decide ((l[j].toNat : Int) ≤ 57)) := rfl
    by_cases h1 : (l[j].toNat : Int) < 48
    · simp -dsimp -implicitDefEqProofs only [aw, V.copy, eq_self, reduceIte, reduceCtorEq, Nat.reduceBEq, Nat.reduceLT, Nat.reduceEqDiff, bs_size, Int.ofNat_lt, hlt, decide_true, bs_list, List.getElem?_eq_getElem hlt, decide_eq_true h1]
      rw [hd, hdg, decide_eq_false (by omega), Bool.false_and, Bool.false_and] at hr
      rw [hr]
      first | exact fin_ret hb rfl rfl List.take_length ⟨rfl, rfl⟩ | exact fin_ret hb rfl rfl List.take_left ⟨rfl, rfl⟩
    · by_cases h2 : 57 < (l[j].toNat : Int)
      · simp -dsimp -implicitDefEqProofs only [aw, V.copy, cond_false, eq_self, reduceIte, reduceCtorEq, Nat.reduceBEq, Nat.reduceLT, Nat.reduceEqDiff, bs_size, Int.ofNat_lt, hlt, decide_true, bs_list, List.getElem?_eq_getElem hlt, decide_eq_false h1, decide_eq_true h2]
        rw [hd, hdg, decide_eq_false (p := (l[j].toNat : Int) ≤ 57) (by omega), Bool.and_false, Bool.false_and] at hr
        rw [hr]
        first | exact fin_ret hb rfl rfl List.take_length ⟨rfl, rfl⟩ | exact fin_ret hb rfl rfl List.take_left ⟨rfl, rfl⟩
      · simp -dsimp -implicitDefEqProofs only [aw, V.copy, cond_false, eq_self, reduceIte, reduceCtorEq, Nat.reduceBEq, Nat.reduceLT, Nat.reduceEqDiff, bs_size, Int.ofNat_lt, hlt, decide_true, bs_list, List.getElem?_eq_getElem hlt, decide_eq_false h1, decide_eq_false h2, wrap_nat hlt (show l.length ≤ 9223372036854775807 by omega)]
        rw [hd, hdg, decide_eq_true (p := (l[j].toNat : Int) ≤ 57) (by omega), decide_eq_true (p := 48 ≤ (l[j].toNat : Int)) (by omega), Bool.true_and, Bool.true_and] at hr
        exact Nxt.same (Nat.le_refl _) hb rfl ⟨rfl, rfl, hr⟩
  · simp -dsimp -implicitDefEqProofs only [aw, V.copy, eq_self, reduceIte, reduceCtorEq, Nat.reduceBEq, Nat.reduceLT, Nat.reduceEqDiff, bs_size, Int.ofNat_lt, hlt, decide_false]
    rw [List.drop_eq_nil_of_le (by omega)] at hr
    rw [hr]
    have e0 : decide ((0 : Int) < ((l.length : Nat) : Int)) = decide (0 < l.length) := by rw [decide_eq_decide]; omega
    rw [e0]
    first | exact fin_ret hb rfl rfl List.take_length ⟨rfl, rfl⟩ | exact fin_ret hb rfl rfl List.take_left ⟨rfl, rfl⟩
theorem decF_snoc (l : Bs) (c : UInt8) (acc : Nat) : decF acc (l ++ [c]) = 10 * decF acc l + (c.toNat - 48) := by unfold decF; rw [List.foldl_append]; rfl
theorem decN_take {l : Bs} {j : Nat} (h : j < l.length) : decN (l.take (j + 1)) = 10 * decN (l.take j) + (l[j].toNat - 48) := by
  rw [List.take_add_one, List.getElem?_eq_getElem h]; exact decF_snoc _ _ 0
theorem decN_mono (l : Bs) (j : Nat) : decN (l.take j) ≤ decN l := by
  have : decN l = decF (decN (l.take j)) (l.drop j) := by
    conv => lhs; rw [← List.take_append_drop j l]
    unfold decN decF; rw [List.foldl_append]
  rw [this]; exact decF_ge _ _
def parseR (c : UInt8) (l : Bs) : V := if l.all dig = false ∨ (1 < l.length ∧ c = 48) then .tup [.d (dint 0), .d (dint 5)] else if 9223372036854775807 < decN l then .tup [.d (dint 0), .d (dint 3)] else .tup [.d (dint (decN l : Nat)), .d (dint 0)]
set_option maxHeartbeats 1000000 in
theorem r1Parse_fun (c : UInt8) (r l : Bs) (he : l = c :: r) (hc : dig c = true) (hl : l.length ≤ 1000000) (σ : List (List V)) : Fun G 54 [.d (dstr (bs l))] σ (RetV (parseR c l) σ) := by
  have hix : ixV (V.d (dstr (bs l))) (V.d (.lit (.int .i64 0))) = some (vint .u8 c.toNat) := by rw [he]; simp [ixV, bs_list]
  have hlp : 0 < l.length := by rw [he]; simp
  have hlp' : (0 : Int) < ((l.length : Nat) : Int) := by omega
  have h45 : (c == 45) = false := by
    rw [beq_eq_false_iff_ne]; intro e; subst e; revert hc; decide
  refine fun_code Tryz.func54 k54 rfl fun hb hw => ?_
  delta c54 oM oV kI kS kT kF
  simp -dsimp -implicitDefEqProofs only [aw, slots0, V.copy, V.lend, cond_true, eq_self, reduceIte, reduceCtorEq, Nat.reduceBEq, Nat.reduceLT, Nat.reduceEqDiff, bs_size, decide_eq_true hlp', hix, u8_45, h45]
  refine fun_ret (r1digits_fun l hl _) ?_
  rw [decide_eq_true hlp, Bool.and_true]
  cases hall : l.all dig with
  | false =>
    simp -dsimp -implicitDefEqProofs only [aw, V.copy, V.lend, eq_self, reduceIte, reduceCtorEq, Nat.reduceBEq, Nat.reduceLT, Nat.reduceEqDiff]
    unfold parseR
    rw [if_pos (.inl hall)]
    first | exact fin_ret hb rfl rfl List.take_length ⟨rfl, rfl⟩ | exact fin_ret hb rfl rfl List.take_left ⟨rfl, rfl⟩
  | true =>
    have hds : ∀ x, x ∈ l → dig x = true := fun x hx => List.all_eq_true.1 hall x hx
    have h48 : decide (bs l = (⟨#[48]⟩ : ByteArray)) = decide (l = [48]) := bs_dec l [48]
    by_cases hlead : 1 < l.length ∧ c = 48
    · have hne : ¬ l = [48] := by rintro rfl; simp at hlead
      simp -dsimp -implicitDefEqProofs only [aw, V.copy, V.lend, cond_true, cond_false, eq_self, reduceIte, reduceCtorEq, Nat.reduceBEq, Nat.reduceLT, Nat.reduceEqDiff, hix, u8_48, beq_iff_eq.2 hlead.2, h48, decide_eq_false hne]
      unfold parseR
      rw [if_pos (.inr hlead)]
      first | exact fin_ret hb rfl rfl List.take_length ⟨rfl, rfl⟩ | exact fin_ret hb rfl rfl List.take_left ⟨rfl, rfl⟩
    · have hR : parseR c l = if 9223372036854775807 < decN l then .tup [.d (dint 0), .d (dint 3)] else .tup [.d (dint (decN l : Nat)), .d (dint 0)] := by
        unfold parseR; rw [if_neg (by rw [hall]; simpa using hlead)]
      have hcond : (c == 48) = false ∨ ((c == 48) = true ∧ l = [48]) := by
        by_cases h : c = 48
        · refine .inr ⟨by simp [h], ?_⟩
          have : r = [] := by
            cases r with
            | nil => rfl
            | cons a r => exact absurd ⟨by rw [he]; simp, h⟩ hlead
          rw [he, this, h]
        · exact .inl (by simpa using h)
      rw [hR]
      rcases hcond with h | ⟨h, h2⟩
      all_goals
        first
          | simp -dsimp -implicitDefEqProofs only [aw, V.copy, V.lend, cond_true, cond_false, eq_self, reduceIte, reduceCtorEq, Nat.reduceBEq, Nat.reduceLT, Nat.reduceEqDiff, hix, u8_48, h, h48, decide_eq_true h2]
          | simp -dsimp -implicitDefEqProofs only [aw, V.copy, V.lend, cond_false, eq_self, reduceIte, reduceCtorEq, Nat.reduceBEq, Nat.reduceLT, Nat.reduceEqDiff, hix, u8_48, h]
        refine awp_for (R := fun (j : Nat) ρ σ' => ρ = [(4, .d (dstr (bs l))), (5, vbool false), (6, vint .i64 (-(decN (l.take j) : Nat))), (7, vint .i64 j)] ∧ σ' = σ ∧ decN (l.take j) ≤ 9223372036854775808) l.length ⟨rfl, rfl, by simp [decN]⟩ ?_ _
        rintro j ρ' σ' hj ⟨rfl, rfl, hm⟩
        by_cases hlt : j < l.length
        · have hst := decN_take hlt
          have hmono := decN_mono l (j + 1)
          have hdg := hds _ (List.getElem_mem hlt)
          unfold dig digB at hdg
          simp only [Bool.and_eq_true, decide_eq_true_eq] at hdg
          have hu8 : IntKind.u8.wrap ((l[j].toNat : Int) - 48) = (l[j].toNat : Int) - 48 := by simp [IntKind.wrap, IntKind.bits, IntKind.signed]; omega
          have hi64 : IntKind.i64.wrap ((l[j].toNat : Int) - 48) = (l[j].toNat : Int) - 48 := wrap_i64 (by omega) (by omega)
          generalize decN (l.take (j + 1)) = m1 at *
          generalize decN (l.take j) = m0 at *
          simp -dsimp -implicitDefEqProofs only [aw, V.copy, V.lend, eq_self, reduceIte, Nat.reduceBEq, Nat.reduceLT, Nat.reduceEqDiff, bs_size, Int.ofNat_lt, hlt, decide_true]
          refine fun_ret (r1Mul10_fun (-(m0 : Int)) (by omega) (by omega) _) ?_
          by_cases hx : m0 * 10 ≤ 9223372036854775808
          · rw [ovV_yes (by omega) (by omega)]
            simp -dsimp -implicitDefEqProofs only [aw, V.copy, V.lend, eq_self, reduceIte, Nat.reduceBEq, Nat.reduceLT, Nat.reduceEqDiff, bs_list, List.getElem?_eq_getElem hlt, hu8, hi64]
            refine fun_ret (r1Sub_fun (-(m0 : Int) * 10) ((l[j].toNat : Int) - 48) (by omega) (by omega) (by omega) (by omega) _) ?_
            by_cases hy : m1 ≤ 9223372036854775808
            · rw [ovV_yes (by omega) (by omega)]
              simp -dsimp -implicitDefEqProofs only [aw, V.copy, V.lend, cond_false, eq_self, reduceIte, Nat.reduceBEq, Nat.reduceLT, Nat.reduceEqDiff, decide_true, wrap_nat hlt (show l.length ≤ 9223372036854775807 by omega)]
              exact ⟨hlt, Nxt.same (Nat.le_refl _) hb rfl ⟨by rw [show -(m0 : Int) * 10 - ((l[j].toNat : Int) - 48) = -(m1 : Int) by omega], rfl, hy⟩⟩
            · rw [ovV_no (by omega)]
              simp -dsimp -implicitDefEqProofs only [aw, V.copy, V.lend, cond_false, eq_self, reduceIte, Nat.reduceBEq, Nat.reduceLT, Nat.reduceEqDiff, Int.reduceEq, decide_true, decide_false]
              rw [if_pos (show 9223372036854775807 < decN l by omega)]
              first | exact fin_ret hb rfl rfl List.take_length ⟨rfl, rfl⟩ | exact fin_ret hb rfl rfl List.take_left ⟨rfl, rfl⟩
          · rw [ovV_no (by omega)]
            simp -dsimp -implicitDefEqProofs only [aw, V.copy, V.lend, eq_self, reduceIte, Nat.reduceBEq, Nat.reduceLT, Nat.reduceEqDiff, bs_list, List.getElem?_eq_getElem hlt, hu8, hi64]
            refine fun_ret (r1Sub_fun 0 ((l[j].toNat : Int) - 48) (by omega) (by omega) (by omega) (by omega) _) ?_
            rw [ovV_yes (by omega) (by omega)]
            simp -dsimp -implicitDefEqProofs only [aw, V.copy, V.lend, eq_self, reduceIte, Nat.reduceBEq, Nat.reduceLT, Nat.reduceEqDiff, Int.reduceEq, decide_false]
            rw [if_pos (show 9223372036854775807 < decN l by omega)]
            first | exact fin_ret hb rfl rfl List.take_length ⟨rfl, rfl⟩ | exact fin_ret hb rfl rfl List.take_left ⟨rfl, rfl⟩
        · have hje : j = l.length := by omega
          subst hje
          rw [List.take_length] at hm ⊢
          simp -dsimp -implicitDefEqProofs only [aw, V.copy, V.lend, eq_self, reduceIte, Nat.reduceBEq, Nat.reduceLT, Nat.reduceEqDiff, bs_size, Int.lt_irrefl, decide_false]
          refine fun_ret (r1Sub_fun 0 (-(decN l : Nat) : Int) (by omega) (by omega) (by omega) (by omega) _) ?_
          rw [show (0 : Int) - -((decN l : Nat) : Int) = (decN l : Nat) by omega]
          by_cases hy : 9223372036854775807 < decN l
          · rw [ovV_no (by omega), if_pos hy]
            simp -dsimp -implicitDefEqProofs only [aw, V.copy, eq_self, reduceIte, Nat.reduceBEq, Nat.reduceLT, Nat.reduceEqDiff]
            first | exact fin_ret hb rfl rfl List.take_length ⟨rfl, rfl⟩ | exact fin_ret hb rfl rfl List.take_left ⟨rfl, rfl⟩
          · rw [ovV_yes (by omega) (by omega), if_neg hy]
            simp -dsimp -implicitDefEqProofs only [aw, V.copy, eq_self, reduceIte, Nat.reduceBEq, Nat.reduceLT, Nat.reduceEqDiff]
            first | exact fin_ret hb rfl rfl List.take_length ⟨rfl, rfl⟩ | exact fin_ret hb rfl rfl List.take_left ⟨rfl, rfl⟩
set_option maxHeartbeats 1000000 in
theorem r1Format_fun (n : Int) (h0 : -9223372036854775808 ≤ n) (h1 : n ≤ 9223372036854775807) (hs : (Lib.itoa n).length ≤ 1000) (σ : List (List V)) : Fun G 57 [.d (dint n)] σ (RetV (.d (dstr (bs (Lib.itoa n)))) σ) := by
  have hlen : (Lib.decDigits n.natAbs).length ≤ 1000 := by
    unfold Lib.itoa at hs
    split at hs
    · simp at hs; omega
    · rwa [show n.toNat = n.natAbs by omega] at hs
  refine fun_code Tryz.func57 k57 rfl fun hb hw => ?_
  delta c57 oM oV kI kS kT kF
  simp -dsimp -implicitDefEqProofs only [aw, slots0, V.copy, V.lend, eq_self, reduceIte, reduceCtorEq, Nat.reduceBEq, Nat.reduceLT, Nat.reduceEqDiff]
  refine fun_ret (r1below_fun n h0 h1 _) ?_
  simp -dsimp -implicitDefEqProofs only [aw, V.copy, eq_self, reduceIte, reduceCtorEq, Nat.reduceBEq, Nat.reduceLT, Nat.reduceEqDiff]
  refine awp_for (R := fun (j : Nat) ρ σ' => ∃ (u : Nat) (tl : Bs), (j = 0 ∨ 1 ≤ u) ∧ u + j ≤ n.natAbs ∧ Lib.decDigits n.natAbs = (if j = 0 then Lib.decDigits u else Lib.decDigits u ++ tl) ∧ (j = 0 → tl = []) ∧ (ρ = [(0, .d (dint n)), (3, .d (dstr (bs tl))), (4, vint .i64 (-(u : Int)))] ∨ ρ = [(0, .d (dint n)), (3, .d (dstr (bs tl))), (4, vint .i64 (-(u : Int))), (18, vbool false)]) ∧ σ' = σ) n.natAbs ⟨n.natAbs, [], .inl rfl, by omega, by rw [if_pos rfl], fun _ => rfl, .inl rfl, rfl⟩ ?_ _
  rintro j ρ' σ' hj ⟨u, tl, hu, huj, hd, htl, hρ, rfl⟩
  have hd' : Lib.decDigits n.natAbs = Lib.decDigits u ++ tl := by
    rw [hd]; split
    · rename_i e; rw [htl e, List.append_nil]
    · rfl
  have htlen : tl.length ≤ 1000 := by have := congrArg List.length hd'; rw [List.length_append] at this; omega
  have hrem : (-(u : Int)).tmod 10 = -((u % 10 : Nat) : Int) := by rw [Int.neg_tmod]; rfl
  have hquo : (-(u : Int)).tdiv 10 = -((u / 10 : Nat) : Int) := by rw [Int.neg_tdiv]; rfl
  have hsub : IntKind.i64.wrap (48 - -((u % 10 : Nat) : Int)) = ((48 + u % 10 : Nat) : Int) := by rw [wrap_i64 (by omega) (by omega)]; omega
  have hu8 : IntKind.u8.wrap ((48 + u % 10 : Nat) : Int) = ((48 + u % 10 : Nat) : Int) := by simp [IntKind.wrap, IntKind.bits, IntKind.signed]; omega
  have hcb : ∀ τ : List (List V), cbsV τ (.d (.sl [[.lit (.int .u8 ((48 + u % 10 : Nat) : Int))]])) = some (.d (dstr (bs [UInt8.ofNat (48 + u % 10)]))) := fun _ => rfl
  have hwq : IntKind.i64.wrap (-((u / 10 : Nat) : Int)) = -((u / 10 : Nat) : Int) := wrap_i64 (by omega) (by omega)
  have hle : 1 + tl.length ≤ 9223372036854775807 := by omega
  have e45 : (⟨#[45]⟩ : ByteArray) = bs [45] := rfl
  rcases hρ with rfl | rfl
  all_goals
    by_cases hz : u / 10 = 0
    · have hz' : (-((u / 10 : Nat) : Int)) = 0 := by omega
      have hlast : Lib.decDigits n.natAbs = UInt8.ofNat (48 + u % 10) :: tl := by
        rw [hd', Lib.decDigits, dif_pos (by omega), show u % 10 = u by omega]; rfl
      have hle2 : 1 + (tl.length + 1) ≤ 9223372036854775807 := by omega
      simp -dsimp -implicitDefEqProofs only [aw, V.copy, V.cells, rowsOf, plains, V.plain, eq_self, reduceIte, reduceCtorEq, Nat.reduceBEq, Nat.reduceLT, Nat.reduceEqDiff, hrem, hquo, hsub, hu8, hcb, hwq, bs_size, bs_append, hle, decide_eq_true hz', Int.reduceEq]
      by_cases hn : n < 0
      · simp -dsimp -implicitDefEqProofs only [aw, V.copy, eq_self, reduceIte, Nat.reduceBEq, Nat.reduceLT, Nat.reduceEqDiff, decide_eq_true hn, e45, bs_size, bs_append, hle2]
        have : Lib.itoa n = 45 :: UInt8.ofNat (48 + u % 10) :: tl := by unfold Lib.itoa; rw [if_pos hn, hlast]
        rw [this]
        first | exact fin_ret hb rfl rfl List.take_length ⟨rfl, rfl⟩ | exact fin_ret hb rfl rfl List.take_left ⟨rfl, rfl⟩
      · simp -dsimp -implicitDefEqProofs only [aw, V.copy, eq_self, reduceIte, Nat.reduceBEq, Nat.reduceLT, Nat.reduceEqDiff, decide_eq_false hn]
        have : Lib.itoa n = UInt8.ofNat (48 + u % 10) :: tl := by unfold Lib.itoa; rw [if_neg hn, show n.toNat = n.natAbs by omega, hlast]
        rw [this]
        first | exact fin_ret hb rfl rfl List.take_length ⟨rfl, rfl⟩ | exact fin_ret hb rfl rfl List.take_left ⟨rfl, rfl⟩
    · have hz' : ¬ (-((u / 10 : Nat) : Int)) = 0 := by omega
      simp -dsimp -implicitDefEqProofs only [aw, V.copy, V.cells, rowsOf, plains, V.plain, eq_self, reduceIte, reduceCtorEq, Nat.reduceBEq, Nat.reduceLT, Nat.reduceEqDiff, hrem, hquo, hsub, hu8, hcb, hwq, bs_size, bs_append, hle, decide_eq_false hz', Int.reduceEq]
      refine ⟨by omega, Nxt.same (Nat.le_refl _) hb rfl ⟨u / 10, UInt8.ofNat (48 + u % 10) :: tl, .inr (by omega), by omega, ?_, fun h => by omega, .inr rfl, rfl⟩⟩
      rw [if_neg (by omega), hd', Lib.decDigits, dif_neg (by omega), List.append_assoc]; rfl
end Go.Proofs.YteopfpebdalcoaaGreatDoor
