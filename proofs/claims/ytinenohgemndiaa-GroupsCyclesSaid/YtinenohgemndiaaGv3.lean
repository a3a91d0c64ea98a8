/-
  Lists and tables compared; whether a pair occurs; what lies between.
-/
import Derived.Test.YtinenohgemndiaaGv2
set_option linter.unusedVariables false
set_option linter.unusedSimpArgs false
set_option linter.unusedSectionVars false
namespace Go.Proofs.Ytinenohgemndiaa
open Go.RowKit
theorem ar0 (cs : List D) : (if (0 : Int) ≤ 0 ∧ (0 : Int) < ((2 : Nat) : Int) then some (V.row cs (Int.toNat 0 * 1)) else none) = some (V.row cs 0) := rfl
theorem ar1 (cs : List D) : (if (0 : Int) ≤ 1 ∧ (1 : Int) < ((2 : Nat) : Int) then some (V.row cs (Int.toNat 1 * 1)) else none) = some (V.row cs 1) := rfl
def dints (l : List Int) : D := .sl (l.map fun x => [dint x])
abbrev cst (l : List Nat) : List Int := l.map fun x : Nat => (x : Int)
theorem ints_at {l : List Int} {j : Nat} {x : Int} (h : l[j]? = some x) : (l.map fun x => [dint x])[j]? = some [dint x] := by simp [h]
theorem take_eq_step {α : Type} {a b : List α} {j : Nat} (h : a.take j = b.take j) {x : α} (ha : a[j]? = some x) (hb : b[j]? = some x) : a.take (j + 1) = b.take (j + 1) := by
  rw [List.take_add_one, List.take_add_one, h, ha, hb]
theorem ints_fun (a b : List Int) (ha : a.length ≤ 1000000) (hb' : b.length ≤ 1000000) (σ : List (List V)) : Fun G 13 [.d (dints a), .d (dints b)] σ (RetV (vbool (decide (a = b))) σ) := by
  refine fun_code Try.func13 k13 rfl fun hb hw => ?_
  unfold c13
  unfold dints
  have hneq : ∀ {x y : Nat}, ((x : Int) = (y : Int)) ↔ x = y := Int.ofNat_inj
  by_cases hlen : a.length = b.length
  · simp -dsimp -implicitDefEqProofs only [aw, slots0, V.copy, V.lend, V.lend1, V.cells, V.boxable, over, bldV, boundV, rowsOf, plains, V.plain, Nat.reduceLeDiff, cond_true, cond_false, implies_true, eq_self, ne_eq, reduceIte, reduceCtorEq, Nat.reduceBEq, Nat.reduceLT, Nat.reduceEqDiff, Nat.reduceAdd, Nat.reduceSub, Nat.reduceMul, hlen, eq_self, decide_true]
    refine awp_forK [0, 1, 5] (fun (j : Nat) ρ σ' => ρ = [(0, .d (dints a)), (1, .d (dints b)), (5, vint .i64 j)] ∧ σ' = σ ∧ a.take j = b.take j) a.length ⟨rfl, rfl, rfl⟩ ?_ _
    rintro j ρ' σ' hj ⟨rfl, rfl, ht⟩
    unfold dints
    by_cases hlt : j < a.length
    · have h1 : a[j]? = some a[j] := List.getElem?_eq_getElem hlt
      have h2 : b[j]? = some (b[j]'(by omega)) := List.getElem?_eq_getElem _
      generalize a[j] = x at h1
      generalize b[j]'(by omega) = y at h2
      by_cases hxy : x = y
      · subst hxy
        simp -dsimp -implicitDefEqProofs only [aw, slots0, V.copy, V.lend, V.lend1, V.cells, V.boxable, over, bldV, boundV, rowsOf, plains, V.plain, Nat.reduceLeDiff, cond_true, cond_false, implies_true, eq_self, ne_eq, reduceIte, reduceCtorEq, Nat.reduceBEq, Nat.reduceLT, Nat.reduceEqDiff, Nat.reduceAdd, Nat.reduceSub, Nat.reduceMul, Int.ofNat_lt, hlt, decide_true, ints_at h1, ints_at h2, iaK_some, eq_self, wrap_nat hlt (show a.length ≤ 9223372036854775807 by omega)]
        exact Nxt.same (Nat.le_refl _) hb rfl ⟨rfl, rfl, take_eq_step ht h1 h2⟩
      · simp -dsimp -implicitDefEqProofs only [aw, slots0, V.copy, V.lend, V.lend1, V.cells, V.boxable, over, bldV, boundV, rowsOf, plains, V.plain, Nat.reduceLeDiff, cond_true, cond_false, implies_true, eq_self, ne_eq, reduceIte, reduceCtorEq, Nat.reduceBEq, Nat.reduceLT, Nat.reduceEqDiff, Nat.reduceAdd, Nat.reduceSub, Nat.reduceMul, Int.ofNat_lt, hlt, decide_true, ints_at h1, ints_at h2, iaK_some, decide_eq_false hxy]
        rw [decide_eq_false (fun e : a = b => hxy (by rw [e, h2] at h1; cases h1; rfl))]
        first | exact fin_ret hb rfl rfl List.take_length ⟨rfl, rfl⟩ | exact fin_ret hb rfl rfl List.take_left ⟨rfl, rfl⟩ | (trace_state; fail "fin")
    · simp -dsimp -implicitDefEqProofs only [aw, slots0, V.copy, V.lend, V.lend1, V.cells, V.boxable, over, bldV, boundV, rowsOf, plains, V.plain, Nat.reduceLeDiff, cond_true, cond_false, implies_true, eq_self, ne_eq, reduceIte, reduceCtorEq, Nat.reduceBEq, Nat.reduceLT, Nat.reduceEqDiff, Nat.reduceAdd, Nat.reduceSub, Nat.reduceMul, Int.ofNat_lt, hlt, decide_false]
      rw [List.take_of_length_le (by omega), List.take_of_length_le (by omega)] at ht
      rw [decide_eq_true ht]
      first | exact fin_ret hb rfl rfl List.take_length ⟨rfl, rfl⟩ | exact fin_ret hb rfl rfl List.take_left ⟨rfl, rfl⟩ | (trace_state; fail "fin")
  · simp -dsimp -implicitDefEqProofs only [aw, slots0, V.copy, V.lend, V.lend1, V.cells, V.boxable, over, bldV, boundV, rowsOf, plains, V.plain, Nat.reduceLeDiff, cond_true, cond_false, implies_true, eq_self, ne_eq, reduceIte, reduceCtorEq, Nat.reduceBEq, Nat.reduceLT, Nat.reduceEqDiff, Nat.reduceAdd, Nat.reduceSub, Nat.reduceMul, hneq, hlen, decide_false]
    rw [decide_eq_false (fun e : a = b => hlen (by rw [e]))]
    first | exact fin_ret hb rfl rfl List.take_length ⟨rfl, rfl⟩ | exact fin_ret hb rfl rfl List.take_left ⟨rfl, rfl⟩ | (trace_state; fail "fin")
theorem tab_at {t : List (List Bool)} {j : Nat} {r : List Bool} (h : t[j]? = some r) : (t.map fun r => [D.sl (dbs r)])[j]? = some [D.sl (dbs r)] := by simp [h]
theorem dbs_at {r : List Bool} {j : Nat} {b : Bool} (h : r[j]? = some b) : (dbs r)[j]? = some [D.lit (.bool b)] := by simp [h]
set_option maxHeartbeats 1000000 in
theorem tables_fun (t s : List (List Bool)) (ha : t.length ≤ 1000000) (hs : ∀ r ∈ t, r.length ≤ 1000000) (σ : List (List V)) : Fun G 18 [.d (dtab t), .d (dtab s)] σ (RetV (vbool (decide (t = s))) σ) := by
  refine fun_code Try.func18 k18 rfl fun hb hw => ?_
  unfold c18
  unfold dtab
  have hneq : ∀ {x y : Nat}, ((x : Int) = (y : Int)) ↔ x = y := Int.ofNat_inj
  by_cases hlen : t.length = s.length
  · simp -dsimp -implicitDefEqProofs only [aw, slots0, V.copy, V.lend, V.lend1, V.cells, V.boxable, over, bldV, boundV, rowsOf, plains, V.plain, Nat.reduceLeDiff, cond_true, cond_false, implies_true, eq_self, ne_eq, reduceIte, reduceCtorEq, Nat.reduceBEq, Nat.reduceLT, Nat.reduceEqDiff, Nat.reduceAdd, Nat.reduceSub, Nat.reduceMul, hlen, eq_self, decide_true]
    refine awp_forK [0, 1, 5] (fun (j : Nat) ρ σ' => ρ = [(0, .d (dtab t)), (1, .d (dtab s)), (5, vint .i64 j)] ∧ σ' = σ ∧ t.take j = s.take j) t.length ⟨rfl, rfl, rfl⟩ ?_ _
    rintro j ρ' σ' hj ⟨rfl, rfl, ht⟩
    unfold dtab
    by_cases hlt : j < t.length
    · have h1 : t[j]? = some t[j] := List.getElem?_eq_getElem hlt
      have h2 : s[j]? = some (s[j]'(by omega)) := List.getElem?_eq_getElem _
      have hrl := hs t[j] (List.getElem_mem hlt)
      generalize t[j] = x at h1 hrl
      generalize s[j]'(by omega) = y at h2
      by_cases hl2 : x.length = y.length
      · simp -dsimp -implicitDefEqProofs only [aw, slots0, V.copy, V.lend, V.lend1, V.cells, V.boxable, over, bldV, boundV, rowsOf, plains, V.plain, Nat.reduceLeDiff, cond_true, cond_false, implies_true, eq_self, ne_eq, reduceIte, reduceCtorEq, Nat.reduceBEq, Nat.reduceLT, Nat.reduceEqDiff, Nat.reduceAdd, Nat.reduceSub, Nat.reduceMul, Int.ofNat_lt, hlt, decide_true, tab_at h1, tab_at h2, iaK_some, hl2, eq_self]
        refine awp_forK [0, 1, 5, 6] (fun (i : Nat) ρ σ'' => ρ = [(0, .d (dtab t)), (1, .d (dtab s)), (5, vint .i64 j), (6, vint .i64 i)] ∧ σ'' = σ' ∧ x.take i = y.take i) x.length ⟨rfl, rfl, rfl⟩ ?_ _
        rintro i ρ' σ'' hi ⟨rfl, rfl, hti⟩
        unfold dtab
        by_cases hil : i < x.length
        · have g1 : x[i]? = some x[i] := List.getElem?_eq_getElem hil
          have g2 : y[i]? = some (y[i]'(by omega)) := List.getElem?_eq_getElem _
          generalize x[i] = p at g1
          generalize y[i]'(by omega) = q at g2
          by_cases hpq : p = q
          · subst hpq
            have hbb : (!(p == p)) = false := by cases p <;> rfl
            simp -dsimp -implicitDefEqProofs only [aw, slots0, V.copy, V.lend, V.lend1, V.cells, V.boxable, over, bldV, boundV, rowsOf, plains, V.plain, Nat.reduceLeDiff, cond_true, cond_false, implies_true, eq_self, ne_eq, reduceIte, reduceCtorEq, Nat.reduceBEq, Nat.reduceLT, Nat.reduceEqDiff, Nat.reduceAdd, Nat.reduceSub, Nat.reduceMul, Int.ofNat_lt, hil, decide_true, tab_at h1, tab_at h2, dbs_at g1, dbs_at g2, iaK_some, eq_self, hbb, wrap_nat hil (show x.length ≤ 9223372036854775807 by omega)]
            exact Nxt.same (Nat.le_refl _) hb rfl ⟨rfl, rfl, take_eq_step hti g1 g2⟩
          · have hbb : (!(p == q)) = true := by cases p <;> cases q <;> first | rfl | exact absurd rfl hpq
            simp -dsimp -implicitDefEqProofs only [aw, slots0, V.copy, V.lend, V.lend1, V.cells, V.boxable, over, bldV, boundV, rowsOf, plains, V.plain, Nat.reduceLeDiff, cond_true, cond_false, implies_true, eq_self, ne_eq, reduceIte, reduceCtorEq, Nat.reduceBEq, Nat.reduceLT, Nat.reduceEqDiff, Nat.reduceAdd, Nat.reduceSub, Nat.reduceMul, Int.ofNat_lt, hil, decide_true, tab_at h1, tab_at h2, dbs_at g1, dbs_at g2, iaK_some, eq_self, hbb]
            rw [decide_eq_false (fun e : t = s => hpq (by rw [e, h2] at h1; cases h1; rw [g2] at g1; cases g1; rfl))]
            first | exact fin_ret hb rfl rfl List.take_length ⟨rfl, rfl⟩ | exact fin_ret hb rfl rfl List.take_left ⟨rfl, rfl⟩ | (trace_state; fail "fin")
        · simp -dsimp -implicitDefEqProofs only [aw, slots0, V.copy, V.lend, V.lend1, V.cells, V.boxable, over, bldV, boundV, rowsOf, plains, V.plain, Nat.reduceLeDiff, cond_true, cond_false, implies_true, eq_self, ne_eq, reduceIte, reduceCtorEq, Nat.reduceBEq, Nat.reduceLT, Nat.reduceEqDiff, Nat.reduceAdd, Nat.reduceSub, Nat.reduceMul, Int.ofNat_lt, hil, decide_false, tab_at h1, iaK_some, wrap_nat hlt (show t.length ≤ 9223372036854775807 by omega)]
          rw [List.take_of_length_le (by omega), List.take_of_length_le (by omega)] at hti
          subst hti
          exact ⟨hlt, Nxt.same (Nat.le_refl _) hb rfl ⟨rfl, rfl, take_eq_step ht h1 h2⟩⟩
      · simp -dsimp -implicitDefEqProofs only [aw, slots0, V.copy, V.lend, V.lend1, V.cells, V.boxable, over, bldV, boundV, rowsOf, plains, V.plain, Nat.reduceLeDiff, cond_true, cond_false, implies_true, eq_self, ne_eq, reduceIte, reduceCtorEq, Nat.reduceBEq, Nat.reduceLT, Nat.reduceEqDiff, Nat.reduceAdd, Nat.reduceSub, Nat.reduceMul, Int.ofNat_lt, hlt, decide_true, tab_at h1, tab_at h2, iaK_some, hneq, hl2, decide_false]
        rw [decide_eq_false (fun e : t = s => hl2 (by rw [e, h2] at h1; cases h1; rfl))]
        first | exact fin_ret hb rfl rfl List.take_length ⟨rfl, rfl⟩ | exact fin_ret hb rfl rfl List.take_left ⟨rfl, rfl⟩ | (trace_state; fail "fin")
    · simp -dsimp -implicitDefEqProofs only [aw, slots0, V.copy, V.lend, V.lend1, V.cells, V.boxable, over, bldV, boundV, rowsOf, plains, V.plain, Nat.reduceLeDiff, cond_true, cond_false, implies_true, eq_self, ne_eq, reduceIte, reduceCtorEq, Nat.reduceBEq, Nat.reduceLT, Nat.reduceEqDiff, Nat.reduceAdd, Nat.reduceSub, Nat.reduceMul, Int.ofNat_lt, hlt, decide_false]
      rw [List.take_of_length_le (by omega), List.take_of_length_le (by omega)] at ht
      rw [decide_eq_true ht]
      first | exact fin_ret hb rfl rfl List.take_length ⟨rfl, rfl⟩ | exact fin_ret hb rfl rfl List.take_left ⟨rfl, rfl⟩ | (trace_state; fail "fin")
  · simp -dsimp -implicitDefEqProofs only [aw, slots0, V.copy, V.lend, V.lend1, V.cells, V.boxable, over, bldV, boundV, rowsOf, plains, V.plain, Nat.reduceLeDiff, cond_true, cond_false, implies_true, eq_self, ne_eq, reduceIte, reduceCtorEq, Nat.reduceBEq, Nat.reduceLT, Nat.reduceEqDiff, Nat.reduceAdd, Nat.reduceSub, Nat.reduceMul, hneq, hlen, decide_false]
    rw [decide_eq_false (fun e : t = s => hlen (by rw [e]))]
    first | exact fin_ret hb rfl rfl List.take_length ⟨rfl, rfl⟩ | exact fin_ret hb rfl rfl List.take_left ⟨rfl, rfl⟩ | (trace_state; fail "fin")
def pairB (l : Prs) (a b : Nat) : Bool := l.any fun p => decide (p.1 = a) && decide (p.2 = b)
theorem pair_fun (l : Prs) (a b : Nat) (hl : l.length ≤ 1000000) (σ : List (List V)) : Fun G 34 [.d (dprs l), .d (dint a), .d (dint b)] σ (RetV (vbool (pairB l a b)) σ) := by
  refine fun_code Try.func34 k34 rfl fun hb hw => ?_
  unfold c34
  simp -dsimp -implicitDefEqProofs only [aw, slots0, V.copy, V.lend, V.lend1, V.cells, V.boxable, over, bldV, boundV, rowsOf, plains, V.plain, Nat.reduceLeDiff, cond_true, cond_false, implies_true, eq_self, ne_eq, reduceIte, reduceCtorEq, Nat.reduceBEq, Nat.reduceLT, Nat.reduceEqDiff, Nat.reduceAdd, Nat.reduceSub, Nat.reduceMul, dprs_eq]
  refine awp_forK [0, 1, 2, 7] (fun (j : Nat) ρ σ' => ρ = [(0, .d (dprs l)), (1, .d (dint a)), (2, .d (dint b)), (7, vint .i64 j)] ∧ σ' = σ ∧ pairB l a b = pairB (l.drop j) a b) l.length ⟨by rw [dprs_eq]; rfl, rfl, rfl⟩ ?_ _
  rintro j ρ' σ' hj ⟨rfl, rfl, hr⟩
  by_cases hlt : j < l.length
  · have hat : l[j]? = some l[j] := List.getElem?_eq_getElem hlt
    rw [List.drop_eq_getElem_cons hlt] at hr
    generalize l[j] = p at hat hr
    obtain ⟨x, y⟩ := p
    have hr' : pairB l a b = ((decide (x = a) && decide (y = b)) || pairB (l.drop (j + 1)) a b) := hr
    have hi : ∀ {x y : Nat}, ((x : Int) = (y : Int)) ↔ x = y := Int.ofNat_inj
    by_cases h1 : x = a
    · by_cases h2 : y = b
      · simp -dsimp -implicitDefEqProofs only [aw, slots0, V.copy, V.lend, V.lend1, V.cells, V.boxable, over, bldV, boundV, rowsOf, plains, V.plain, Nat.reduceLeDiff, cond_true, cond_false, implies_true, eq_self, ne_eq, reduceIte, reduceCtorEq, Nat.reduceBEq, Nat.reduceLT, Nat.reduceEqDiff, Nat.reduceAdd, Nat.reduceSub, Nat.reduceMul, Int.ofNat_lt, hlt, decide_true, dprs_eq, prs_at hat, iaK_some, ar0, ar1, hi, h1, h2, eq_self]
        rw [hr', decide_eq_true h1, decide_eq_true h2]
        first | exact fin_ret hb rfl rfl List.take_length ⟨rfl, rfl⟩ | exact fin_ret hb rfl rfl List.take_left ⟨rfl, rfl⟩ | (trace_state; fail "fin")
      · simp -dsimp -implicitDefEqProofs only [aw, slots0, V.copy, V.lend, V.lend1, V.cells, V.boxable, over, bldV, boundV, rowsOf, plains, V.plain, Nat.reduceLeDiff, cond_true, cond_false, implies_true, eq_self, ne_eq, reduceIte, reduceCtorEq, Nat.reduceBEq, Nat.reduceLT, Nat.reduceEqDiff, Nat.reduceAdd, Nat.reduceSub, Nat.reduceMul, Int.ofNat_lt, hlt, decide_true, dprs_eq, prs_at hat, iaK_some, ar0, ar1, hi, h1, h2, eq_self, decide_false, wrap_nat hlt (show l.length ≤ 9223372036854775807 by omega)]
        exact Nxt.same (Nat.le_refl _) hb rfl ⟨by rw [dprs_eq], rfl, by rw [hr', decide_eq_false h2, Bool.and_false, Bool.false_or]⟩
    · simp -dsimp -implicitDefEqProofs only [aw, slots0, V.copy, V.lend, V.lend1, V.cells, V.boxable, over, bldV, boundV, rowsOf, plains, V.plain, Nat.reduceLeDiff, cond_true, cond_false, implies_true, eq_self, ne_eq, reduceIte, reduceCtorEq, Nat.reduceBEq, Nat.reduceLT, Nat.reduceEqDiff, Nat.reduceAdd, Nat.reduceSub, Nat.reduceMul, Int.ofNat_lt, hlt, decide_true, dprs_eq, prs_at hat, iaK_some, ar0, ar1, hi, h1, decide_false, wrap_nat hlt (show l.length ≤ 9223372036854775807 by omega)]
      exact Nxt.same (Nat.le_refl _) hb rfl ⟨by rw [dprs_eq], rfl, by rw [hr', decide_eq_false h1, Bool.false_and, Bool.false_or]⟩
  · simp -dsimp -implicitDefEqProofs only [aw, slots0, V.copy, V.lend, V.lend1, V.cells, V.boxable, over, bldV, boundV, rowsOf, plains, V.plain, Nat.reduceLeDiff, cond_true, cond_false, implies_true, eq_self, ne_eq, reduceIte, reduceCtorEq, Nat.reduceBEq, Nat.reduceLT, Nat.reduceEqDiff, Nat.reduceAdd, Nat.reduceSub, Nat.reduceMul, Int.ofNat_lt, hlt, decide_false, dprs_eq]
    rw [List.drop_eq_nil_of_le (by omega)] at hr
    rw [hr]
    first | exact fin_ret hb rfl rfl List.take_length ⟨rfl, rfl⟩ | exact fin_ret hb rfl rfl List.take_left ⟨rfl, rfl⟩ | (trace_state; fail "fin")
theorem refvalid_fun (n : Int) (l : Rw) (hl : l.length ≤ 1000000) (σ : List (List V)) : Fun G 14 [.d (dint n), .d (drel l)] σ (RetV (.d (.lit (.bool (validR n l)))) σ) := by
  refine fun_code Try.func14 k14 rfl fun hb hw => ?_
  unfold c14
  unfold drel
  by_cases h0 : n < 0
  · simp -dsimp -implicitDefEqProofs only [aw, slots0, V.copy, V.lend, V.lend1, V.cells, V.boxable, over, bldV, boundV, rowsOf, plains, V.plain, Nat.reduceLeDiff, cond_true, cond_false, implies_true, eq_self, ne_eq, reduceIte, reduceCtorEq, Nat.reduceBEq, Nat.reduceLT, Nat.reduceEqDiff, Nat.reduceAdd, Nat.reduceSub, Nat.reduceMul, decide_eq_true h0]
    rw [show validR n l = false by unfold validR; rw [decide_eq_false (by omega)]; rfl]
    first | exact fin_ret hb rfl rfl List.take_length ⟨rfl, rfl⟩ | exact fin_ret hb rfl rfl List.take_left ⟨rfl, rfl⟩ | (trace_state; fail "fin")
  by_cases h64 : 64 < n
  · simp -dsimp -implicitDefEqProofs only [aw, slots0, V.copy, V.lend, V.lend1, V.cells, V.boxable, over, bldV, boundV, rowsOf, plains, V.plain, Nat.reduceLeDiff, cond_true, cond_false, implies_true, eq_self, ne_eq, reduceIte, reduceCtorEq, Nat.reduceBEq, Nat.reduceLT, Nat.reduceEqDiff, Nat.reduceAdd, Nat.reduceSub, Nat.reduceMul, decide_eq_false h0, decide_eq_true h64]
    rw [show validR n l = false by unfold validR; rw [decide_eq_false (p := n ≤ 64) (by omega), Bool.and_false]; rfl]
    first | exact fin_ret hb rfl rfl List.take_length ⟨rfl, rfl⟩ | exact fin_ret hb rfl rfl List.take_left ⟨rfl, rfl⟩ | (trace_state; fail "fin")
  have hv : validR n l = l.all (okP n) := by unfold validR; rw [decide_eq_true (by omega), decide_eq_true (by omega)]; rfl
  simp -dsimp -implicitDefEqProofs only [aw, slots0, V.copy, V.lend, V.lend1, V.cells, V.boxable, over, bldV, boundV, rowsOf, plains, V.plain, Nat.reduceLeDiff, cond_true, cond_false, implies_true, eq_self, ne_eq, reduceIte, reduceCtorEq, Nat.reduceBEq, Nat.reduceLT, Nat.reduceEqDiff, Nat.reduceAdd, Nat.reduceSub, Nat.reduceMul, decide_eq_false h0, decide_eq_false h64]
  refine awp_forK [0, 1, 5] (fun (j : Nat) ρ σ' => ρ = [(0, .d (dint n)), (1, .d (drel l)), (5, vint .i64 j)] ∧ σ' = σ ∧ l.all (okP n) = (l.drop j).all (okP n)) l.length ⟨rfl, rfl, rfl⟩ ?_ _
  rintro j ρ' σ' hj ⟨rfl, rfl, hr⟩
  unfold drel
  by_cases hlt : j < l.length
  · rw [all_drop hlt] at hr
    have hat := rows_at hlt
    generalize l[j] = p at hat hr
    obtain ⟨a, b⟩ := p
    have out : okP n (a, b) = false → validR n l = false := fun h => by rw [hv, hr, h]; rfl
    by_cases h1 : a < 0
    · simp -dsimp -implicitDefEqProofs only [aw, slots0, V.copy, V.lend, V.lend1, V.cells, V.boxable, over, bldV, boundV, rowsOf, plains, V.plain, Nat.reduceLeDiff, cond_true, cond_false, implies_true, eq_self, ne_eq, reduceIte, reduceCtorEq, Nat.reduceBEq, Nat.reduceLT, Nat.reduceEqDiff, Nat.reduceAdd, Nat.reduceSub, Nat.reduceMul, Int.ofNat_lt, hlt, decide_true, hat, iaK_some, ar0, ar1, decide_eq_true h1]
      rw [out (by unfold okP; rw [decide_eq_false (p := 0 ≤ a) (by omega)]; rfl)]
      first | exact fin_ret hb rfl rfl List.take_length ⟨rfl, rfl⟩ | exact fin_ret hb rfl rfl List.take_left ⟨rfl, rfl⟩ | (trace_state; fail "fin")
    by_cases h2 : n ≤ a
    · simp -dsimp -implicitDefEqProofs only [aw, slots0, V.copy, V.lend, V.lend1, V.cells, V.boxable, over, bldV, boundV, rowsOf, plains, V.plain, Nat.reduceLeDiff, cond_true, cond_false, implies_true, eq_self, ne_eq, reduceIte, reduceCtorEq, Nat.reduceBEq, Nat.reduceLT, Nat.reduceEqDiff, Nat.reduceAdd, Nat.reduceSub, Nat.reduceMul, Int.ofNat_lt, hlt, decide_true, hat, iaK_some, ar0, ar1, decide_eq_false h1, decide_eq_true h2]
      rw [out (by unfold okP; rw [decide_eq_false (p := a < n) (by omega), Bool.and_false]; rfl)]
      first | exact fin_ret hb rfl rfl List.take_length ⟨rfl, rfl⟩ | exact fin_ret hb rfl rfl List.take_left ⟨rfl, rfl⟩ | (trace_state; fail "fin")
    by_cases h3 : b < 0
    · simp -dsimp -implicitDefEqProofs only [aw, slots0, V.copy, V.lend, V.lend1, V.cells, V.boxable, over, bldV, boundV, rowsOf, plains, V.plain, Nat.reduceLeDiff, cond_true, cond_false, implies_true, eq_self, ne_eq, reduceIte, reduceCtorEq, Nat.reduceBEq, Nat.reduceLT, Nat.reduceEqDiff, Nat.reduceAdd, Nat.reduceSub, Nat.reduceMul, Int.ofNat_lt, hlt, decide_true, hat, iaK_some, ar0, ar1, decide_eq_false h1, decide_eq_false h2, decide_eq_true h3]
      rw [out (by unfold okP; rw [decide_eq_false (p := 0 ≤ b) (by omega), Bool.false_and, Bool.and_false])]
      first | exact fin_ret hb rfl rfl List.take_length ⟨rfl, rfl⟩ | exact fin_ret hb rfl rfl List.take_left ⟨rfl, rfl⟩ | (trace_state; fail "fin")
    by_cases h4 : n ≤ b
    · simp -dsimp -implicitDefEqProofs only [aw, slots0, V.copy, V.lend, V.lend1, V.cells, V.boxable, over, bldV, boundV, rowsOf, plains, V.plain, Nat.reduceLeDiff, cond_true, cond_false, implies_true, eq_self, ne_eq, reduceIte, reduceCtorEq, Nat.reduceBEq, Nat.reduceLT, Nat.reduceEqDiff, Nat.reduceAdd, Nat.reduceSub, Nat.reduceMul, Int.ofNat_lt, hlt, decide_true, hat, iaK_some, ar0, ar1, decide_eq_false h1, decide_eq_false h2, decide_eq_false h3, decide_eq_true h4]
      rw [out (by unfold okP; rw [decide_eq_false (p := b < n) (by omega), Bool.and_false, Bool.and_false])]
      first | exact fin_ret hb rfl rfl List.take_length ⟨rfl, rfl⟩ | exact fin_ret hb rfl rfl List.take_left ⟨rfl, rfl⟩ | (trace_state; fail "fin")
    · simp -dsimp -implicitDefEqProofs only [aw, slots0, V.copy, V.lend, V.lend1, V.cells, V.boxable, over, bldV, boundV, rowsOf, plains, V.plain, Nat.reduceLeDiff, cond_true, cond_false, implies_true, eq_self, ne_eq, reduceIte, reduceCtorEq, Nat.reduceBEq, Nat.reduceLT, Nat.reduceEqDiff, Nat.reduceAdd, Nat.reduceSub, Nat.reduceMul, Int.ofNat_lt, hlt, decide_true, hat, iaK_some, ar0, ar1, decide_eq_false h1, decide_eq_false h2, decide_eq_false h3, decide_eq_false h4, wrap_nat hlt (show l.length ≤ 9223372036854775807 by omega)]
      refine Nxt.same (Nat.le_refl _) hb rfl ⟨rfl, rfl, ?_⟩
      rw [hr, show okP n (a, b) = true by unfold okP; rw [decide_eq_true (by omega), decide_eq_true (by omega), decide_eq_true (by omega), decide_eq_true (by omega)]; rfl, Bool.true_and]
  · simp -dsimp -implicitDefEqProofs only [aw, slots0, V.copy, V.lend, V.lend1, V.cells, V.boxable, over, bldV, boundV, rowsOf, plains, V.plain, Nat.reduceLeDiff, cond_true, cond_false, implies_true, eq_self, ne_eq, reduceIte, reduceCtorEq, Nat.reduceBEq, Nat.reduceLT, Nat.reduceEqDiff, Nat.reduceAdd, Nat.reduceSub, Nat.reduceMul, Int.ofNat_lt, hlt, decide_false]
    rw [List.drop_eq_nil_of_le (by omega)] at hr
    rw [hv, hr]
    first | exact fin_ret hb rfl rfl List.take_length ⟨rfl, rfl⟩ | exact fin_ret hb rfl rfl List.take_left ⟨rfl, rfl⟩ | (trace_state; fail "fin")
theorem valid_prs {n : Int} {l : Rw} (h : validR n l = true) : ∃ (m : Nat) (p : Prs), n = m ∧ m ≤ 64 ∧ drel l = dprs p ∧ p.length = l.length ∧ l = p.map (fun q => ((q.1 : Int), (q.2 : Int))) ∧ ∀ a b, RL p a b → a < m ∧ b < m := by
  unfold validR at h
  simp only [Bool.and_eq_true, decide_eq_true_eq, List.all_eq_true] at h
  obtain ⟨⟨h0, h1⟩, h2⟩ := h
  have e : l = (l.map fun p => (p.1.toNat, p.2.toNat)).map (fun q => ((q.1 : Int), (q.2 : Int))) := by
    rw [List.map_map]
    conv => lhs; rw [← List.map_id l]
    refine List.map_congr_left fun p hp => ?_
    have := h2 p hp
    unfold okP at this
    simp only [Bool.and_eq_true, decide_eq_true_eq] at this
    obtain ⟨a, b⟩ := p
    simp only [id, Function.comp, Prod.mk.injEq] at this ⊢
    omega
  refine ⟨n.toNat, l.map fun p => (p.1.toNat, p.2.toNat), by omega, by omega, by unfold dprs; rw [← e], by simp, e, fun a b hab => ?_⟩
  obtain ⟨p, hp, e2⟩ := List.mem_map.1 hab
  have := h2 p hp
  unfold okP at this
  simp only [Bool.and_eq_true, decide_eq_true_eq] at this
  cases e2
  omega
def reachT (n : Int) (l : Rw) : List (List Bool) := if validR n l = true then clo n.toNat (l.map fun p => (p.1.toNat, p.2.toNat)) else []
theorem reach_yes {n : Nat} {p : Prs} (h : validR n (p.map fun q => ((q.1 : Int), (q.2 : Int))) = true) : reachT n (p.map fun q => ((q.1 : Int), (q.2 : Int))) = clo n p := by
  unfold reachT
  rw [if_pos h, Int.toNat_natCast, List.map_map]
  congr 1
  conv => rhs; rw [← List.map_id p]
  rfl
theorem reach_no {n : Int} {l : Rw} (h : validR n l = false) : reachT n l = [] := by
  unfold reachT
  rw [h, if_neg (by decide)]
theorem grreach_fun (n : Int) (l : Rw) (hl : l.length ≤ 1000000) (σ : List (List V)) : Fun G 19 [.d (dint n), .d (drel l)] σ (RetV (.d (dtab (reachT n l))) σ) := by
  refine fun_code Try.func19 k19 rfl fun hb hw => ?_
  unfold c19
  simp -dsimp -implicitDefEqProofs only [aw, slots0, V.copy, V.lend, V.lend1, V.cells, V.boxable, over, bldV, boundV, rowsOf, plains, V.plain, Nat.reduceLeDiff, cond_true, cond_false, implies_true, eq_self, ne_eq, reduceIte, reduceCtorEq, Nat.reduceBEq, Nat.reduceLT, Nat.reduceEqDiff, Nat.reduceAdd, Nat.reduceSub, Nat.reduceMul]
  refine fun_ret (grvalid_fun n l hl _) ?_
  cases h : validR n l
  · simp -dsimp -implicitDefEqProofs only [aw, slots0, V.copy, V.lend, V.lend1, V.cells, V.boxable, over, bldV, boundV, rowsOf, plains, V.plain, Nat.reduceLeDiff, cond_true, cond_false, implies_true, eq_self, ne_eq, reduceIte, reduceCtorEq, Nat.reduceBEq, Nat.reduceLT, Nat.reduceEqDiff, Nat.reduceAdd, Nat.reduceSub, Nat.reduceMul]
    rw [reach_no h]
    first | exact fin_ret hb rfl rfl List.take_length ⟨rfl, rfl⟩ | exact fin_ret hb rfl rfl List.take_left ⟨rfl, rfl⟩ | (trace_state; fail "fin")
  · simp -dsimp -implicitDefEqProofs only [aw, slots0, V.copy, V.lend, V.lend1, V.cells, V.boxable, over, bldV, boundV, rowsOf, plains, V.plain, Nat.reduceLeDiff, cond_true, cond_false, implies_true, eq_self, ne_eq, reduceIte, reduceCtorEq, Nat.reduceBEq, Nat.reduceLT, Nat.reduceEqDiff, Nat.reduceAdd, Nat.reduceSub, Nat.reduceMul]
    obtain ⟨m, p, rfl, hm, e1, e2, rfl, hb2⟩ := valid_prs h
    rw [e1]
    refine fun_ret (closure_fun m p hm hb2 (by omega) _) ?_
    simp -dsimp -implicitDefEqProofs only [aw, slots0, V.copy, V.lend, V.lend1, V.cells, V.boxable, over, bldV, boundV, rowsOf, plains, V.plain, Nat.reduceLeDiff, cond_true, cond_false, implies_true, eq_self, ne_eq, reduceIte, reduceCtorEq, Nat.reduceBEq, Nat.reduceLT, Nat.reduceEqDiff, Nat.reduceAdd, Nat.reduceSub, Nat.reduceMul]
    rw [reach_yes h]
    first | exact fin_ret hb rfl rfl List.take_length ⟨rfl, rfl⟩ | exact fin_ret hb rfl rfl List.take_left ⟨rfl, rfl⟩ | (trace_state; fail "fin")
theorem between_fun (n : Nat) (t : List (List Bool)) (ht : Sq n t) (hn : n ≤ 64) (a b : Nat) (ha : a < n) (hb' : b < n) (σ : List (List V)) : Fun G 35 [.d (dtab t), .d (dint a), .d (dint b)] σ (RetV (vbool (btw n t a b)) σ) := by
  refine fun_code Try.func35 k35 rfl fun hb hw => ?_
  unfold c35
  unfold dtab
  have hla : t[a]? = some (t[a]?.getD []) := by rw [List.getElem?_eq_getElem (by rw [ht.len]; exact ha)]; rfl
  simp -dsimp -implicitDefEqProofs only [aw, slots0, V.copy, V.lend, V.lend1, V.cells, V.boxable, over, bldV, boundV, rowsOf, plains, V.plain, Nat.reduceLeDiff, cond_true, cond_false, implies_true, eq_self, ne_eq, reduceIte, reduceCtorEq, Nat.reduceBEq, Nat.reduceLT, Nat.reduceEqDiff, Nat.reduceAdd, Nat.reduceSub, Nat.reduceMul, ht.len]
  refine awp_forK [0, 1, 2, 9, 10] (fun (j : Nat) ρ σ' => ρ = [(0, .d (dtab t)), (1, .d (dint a)), (2, .d (dint b)), (9, vint .i64 n), (10, vint .i64 j)] ∧ σ' = σ ∧ btw n t a b = ((List.range n).drop j).any fun i => tget t a i && tget t i b) n ⟨rfl, rfl, rfl⟩ ?_ _
  rintro j ρ' σ' hj ⟨rfl, rfl, hr⟩
  unfold dtab
  by_cases hlt : j < n
  · have hr' : btw n t a b = ((tget t a j && tget t j b) || ((List.range n).drop (j + 1)).any fun i => tget t a i && tget t i b) := by
      rw [hr, List.drop_eq_getElem_cons (by simpa using hlt)]; simp
    have hlj : t[j]? = some (t[j]?.getD []) := by rw [List.getElem?_eq_getElem (by rw [ht.len]; exact hlt)]; rfl
    have g1 := dbs_at (ht.get ha hlt)
    have g2 := dbs_at (ht.get hlt hb')
    cases b1 : tget t a j
    · rw [b1] at g1
      simp -dsimp -implicitDefEqProofs only [aw, slots0, V.copy, V.lend, V.lend1, V.cells, V.boxable, over, bldV, boundV, rowsOf, plains, V.plain, Nat.reduceLeDiff, cond_true, cond_false, implies_true, eq_self, ne_eq, reduceIte, reduceCtorEq, Nat.reduceBEq, Nat.reduceLT, Nat.reduceEqDiff, Nat.reduceAdd, Nat.reduceSub, Nat.reduceMul, Int.ofNat_lt, hlt, decide_true, tab_at hla, tab_at hlj, iaK_some, g1, g2, wrap_nat hlt (show n ≤ 9223372036854775807 by omega)]
      exact Nxt.same (Nat.le_refl _) hb rfl ⟨rfl, rfl, by rw [hr', b1]; rfl⟩
    · rw [b1] at g1
      cases b2 : tget t j b
      · rw [b2] at g2
        simp -dsimp -implicitDefEqProofs only [aw, slots0, V.copy, V.lend, V.lend1, V.cells, V.boxable, over, bldV, boundV, rowsOf, plains, V.plain, Nat.reduceLeDiff, cond_true, cond_false, implies_true, eq_self, ne_eq, reduceIte, reduceCtorEq, Nat.reduceBEq, Nat.reduceLT, Nat.reduceEqDiff, Nat.reduceAdd, Nat.reduceSub, Nat.reduceMul, Int.ofNat_lt, hlt, decide_true, tab_at hla, tab_at hlj, iaK_some, g1, g2, wrap_nat hlt (show n ≤ 9223372036854775807 by omega)]
        exact Nxt.same (Nat.le_refl _) hb rfl ⟨rfl, rfl, by rw [hr', b1, b2]; rfl⟩
      · rw [b2] at g2
        simp -dsimp -implicitDefEqProofs only [aw, slots0, V.copy, V.lend, V.lend1, V.cells, V.boxable, over, bldV, boundV, rowsOf, plains, V.plain, Nat.reduceLeDiff, cond_true, cond_false, implies_true, eq_self, ne_eq, reduceIte, reduceCtorEq, Nat.reduceBEq, Nat.reduceLT, Nat.reduceEqDiff, Nat.reduceAdd, Nat.reduceSub, Nat.reduceMul, Int.ofNat_lt, hlt, decide_true, tab_at hla, tab_at hlj, iaK_some, g1, g2]
        rw [hr', b1, b2]
        first | exact fin_ret hb rfl rfl List.take_length ⟨rfl, rfl⟩ | exact fin_ret hb rfl rfl List.take_left ⟨rfl, rfl⟩ | (trace_state; fail "fin")
  · simp -dsimp -implicitDefEqProofs only [aw, slots0, V.copy, V.lend, V.lend1, V.cells, V.boxable, over, bldV, boundV, rowsOf, plains, V.plain, Nat.reduceLeDiff, cond_true, cond_false, implies_true, eq_self, ne_eq, reduceIte, reduceCtorEq, Nat.reduceBEq, Nat.reduceLT, Nat.reduceEqDiff, Nat.reduceAdd, Nat.reduceSub, Nat.reduceMul, Int.ofNat_lt, hlt, decide_false]
    rw [List.drop_eq_nil_of_le (by simp; omega)] at hr
    rw [hr]
    first | exact fin_ret hb rfl rfl List.take_length ⟨rfl, rfl⟩ | exact fin_ret hb rfl rfl List.take_left ⟨rfl, rfl⟩ | (trace_state; fail "fin")
end Go.Proofs.Ytinenohgemndiaa
