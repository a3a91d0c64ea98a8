/-
  The law TseqBounds: its walk.
-/
import Derived.Test.YtbhippphcmkjnaaGreatDoorTBnd
set_option linter.unusedVariables false
set_option linter.unusedSimpArgs false
namespace Go.Proofs.YtbhippphcmkjnaaGreatDoor
open Go.RowKit

theorem tseqBounds_fun (s : Ts) (hs : tbig s ≤ 1000000) : Fun G 6 [vts s] [] (RetV (.d (.lit (.bool true))) []) := by
  have qmin : minT s = if validT s = 0 then lenT false s else 0 := rfl
  have qmax : maxT s = if validT s = 0 then lenT true s else 0 := rfl
  have hmn := fun σ => tmin_fun s hs σ
  have hmx := fun σ => tmax_fun s hs σ
  refine fun_code Tryz.func6 k6 (by simp only [vts_eq]; rfl) fun hb hw => ?_
  unfold c6
  by_cases h0 : validT s = 0
  · rw [if_pos h0] at qmin qmax
    rw [qmin] at hmn
    rw [qmax] at hmx
    have hg := GoodT.of h0 hs
    have hbd := len_bd s hg
    have h8 : (16 : Int) ^ tdp s ≤ 16 ^ 8 := by exact_mod_cast Nat.pow_le_pow_right (by omega) hg.2.1
    have h88 : (16 : Int) ^ 8 = 4294967296 := by decide
    have c1 : ¬ lenT false s < 1 := by omega
    have c2 : ¬ lenT true s < lenT false s := by omega
    have c3 : ¬ (4294967296 : Int) < lenT true s := by omega
    simp -dsimp -implicitDefEqProofs only [aw, slots0, V.copy, V.lend, V.lend1, V.cells, V.boxable, over, bldV, boundV, rowsOf, plains, V.plain, Nat.reduceLeDiff, cond_true, cond_false, implies_true, eq_self, ne_eq, reduceIte, reduceCtorEq, Nat.reduceBEq, Nat.reduceLT, Nat.reduceEqDiff, Nat.reduceAdd, Nat.reduceSub, Nat.reduceMul, vts_eq]
    refine calm_ret (by simpa only [vts_eq] using hmn _) ?_
    simp -dsimp -implicitDefEqProofs only [aw, slots0, V.copy, V.lend, V.lend1, V.cells, V.boxable, over, bldV, boundV, rowsOf, plains, V.plain, Nat.reduceLeDiff, cond_true, cond_false, implies_true, eq_self, ne_eq, reduceIte, reduceCtorEq, Nat.reduceBEq, Nat.reduceLT, Nat.reduceEqDiff, Nat.reduceAdd, Nat.reduceSub, Nat.reduceMul]
    refine calm_ret (by simpa only [vts_eq] using hmx _) ?_
    simp -dsimp -implicitDefEqProofs only [aw, slots0, V.copy, V.lend, V.lend1, V.cells, V.boxable, over, bldV, boundV, rowsOf, plains, V.plain, Nat.reduceLeDiff, cond_true, cond_false, implies_true, eq_self, ne_eq, reduceIte, reduceCtorEq, Nat.reduceBEq, Nat.reduceLT, Nat.reduceEqDiff, Nat.reduceAdd, Nat.reduceSub, Nat.reduceMul]
    refine fun_ret (by simpa only [vts_eq] using rvalid39_fun s hs _) ?_
    by_cases h4 : (400 : Int) < lenT true s
    · simp -dsimp -implicitDefEqProofs only [aw, slots0, V.copy, V.lend, V.lend1, V.cells, V.boxable, over, bldV, boundV, rowsOf, plains, V.plain, Nat.reduceLeDiff, cond_true, cond_false, implies_true, eq_self, ne_eq, reduceIte, reduceCtorEq, Nat.reduceBEq, Nat.reduceLT, Nat.reduceEqDiff, Nat.reduceAdd, Nat.reduceSub, Nat.reduceMul, h0, Int.reduceEq, decide_true, decide_false, decide_eq_false c1, decide_eq_false c2, decide_eq_false c3, decide_eq_true h4]
      refine fun_ret (awake_fun _) ?_
      simp -dsimp -implicitDefEqProofs only [aw, slots0, V.copy, V.lend, V.lend1, V.cells, V.boxable, over, bldV, boundV, rowsOf, plains, V.plain, Nat.reduceLeDiff, cond_true, cond_false, implies_true, eq_self, ne_eq, reduceIte, reduceCtorEq, Nat.reduceBEq, Nat.reduceLT, Nat.reduceEqDiff, Nat.reduceAdd, Nat.reduceSub, Nat.reduceMul]
      exact fin_ret hb rfl rfl rfl ⟨rfl, rfl⟩
    · simp -dsimp -implicitDefEqProofs only [aw, slots0, V.copy, V.lend, V.lend1, V.cells, V.boxable, over, bldV, boundV, rowsOf, plains, V.plain, Nat.reduceLeDiff, cond_true, cond_false, implies_true, eq_self, ne_eq, reduceIte, reduceCtorEq, Nat.reduceBEq, Nat.reduceLT, Nat.reduceEqDiff, Nat.reduceAdd, Nat.reduceSub, Nat.reduceMul, h0, Int.reduceEq, decide_true, decide_false, decide_eq_false c1, decide_eq_false c2, decide_eq_false c3, decide_eq_false h4]
      refine ret_pos (s := s) (by simpa only [vts_eq] using possible_fun s hs h0 (by omega) _) ?_
      rintro L ⟨lo, hi, hlo, hhi, hL⟩
      have hLl := hL.len
      have hlo1 : 1 ≤ lo := by omega
      rw [hlo, hhi]
      simp -dsimp -implicitDefEqProofs only [aw, slots0, V.copy, V.lend, V.lend1, V.cells, V.boxable, over, bldV, boundV, rowsOf, plains, V.plain, Nat.reduceLeDiff, cond_true, cond_false, implies_true, eq_self, ne_eq, reduceIte, reduceCtorEq, Nat.reduceBEq, Nat.reduceLT, Nat.reduceEqDiff, Nat.reduceAdd, Nat.reduceSub, Nat.reduceMul]
      refine awp_forK [3, 4, 6, 7, 42, 43, 44] (R := fun (n : Nat) ρ σ' => ∃ g : Nat, ρ = [(3, .d (dint lo)), (4, .d (dint hi)), (6, .d (dint ((if lo < n then lo else 0 : Nat) : Int))), (7, .d (dint (g : Int))), (42, .d (.sl (dbs L))), (43, vint .i64 L.length), (44, vint .i64 n)] ∧ σ' = [boxT s] ∧ (∀ m : Nat, m < n → L[m]? = some true → m ≤ g) ∧ g ≤ hi) L.length ⟨0, rfl, rfl, fun m h => by omega, by omega⟩ ?_ _
      rintro n ρ' σ' hn ⟨g, rfl, rfl, hgm, hgh⟩
      by_cases hlt : n < L.length
      · have wn := wrap_nat hlt (show L.length ≤ 9223372036854775807 by omega)
        cases hb' : L[n] with
        | true =>
          have hbn := hL.bd n (by rw [List.getElem?_eq_getElem hlt, hb'])
          by_cases e : lo < n
          · have e0 : (if lo < n then lo else 0 : Nat) = lo := if_pos e
            have e1 : (if lo < n + 1 then lo else 0 : Nat) = lo := if_pos (by omega)
            have ne0 : ¬ ((lo : Nat) : Int) = 0 := by omega
            rw [e0]
            simp -dsimp -implicitDefEqProofs only [aw, slots0, V.copy, V.lend, V.lend1, V.cells, V.boxable, over, bldV, boundV, rowsOf, plains, V.plain, Nat.reduceLeDiff, cond_true, cond_false, implies_true, eq_self, ne_eq, reduceIte, reduceCtorEq, Nat.reduceBEq, Nat.reduceLT, Nat.reduceEqDiff, Nat.reduceAdd, Nat.reduceSub, Nat.reduceMul, Int.ofNat_lt, hlt, decide_true, List.getElem?_eq_getElem hlt, hb', decide_eq_false ne0, wn]
            refine Nxt.same (by simp) (by simp [boxesBelow, V.unders, V.under]) (by simp [slotsBelow, V.under]) ⟨n, by rw [e1], rfl, fun m hm _ => by omega, hbn.2⟩
          · have e0 : (if lo < n then lo else 0 : Nat) = 0 := if_neg e
            have e1 : (if lo < n + 1 then lo else 0 : Nat) = n := by rw [if_pos (by omega)]; omega
            rw [e0]
            simp -dsimp -implicitDefEqProofs only [aw, slots0, V.copy, V.lend, V.lend1, V.cells, V.boxable, over, bldV, boundV, rowsOf, plains, V.plain, Nat.reduceLeDiff, cond_true, cond_false, implies_true, eq_self, ne_eq, reduceIte, reduceCtorEq, Nat.reduceBEq, Nat.reduceLT, Nat.reduceEqDiff, Nat.reduceAdd, Nat.reduceSub, Nat.reduceMul, Int.ofNat_lt, hlt, decide_true, List.getElem?_eq_getElem hlt, hb', wn, Int.cast_ofNat_Int, Int.reduceEq]
            refine Nxt.same (by simp) (by simp [boxesBelow, V.unders, V.under]) (by simp [slotsBelow, V.under]) ⟨n, by rw [e1], rfl, fun m hm _ => by omega, hbn.2⟩
        | false =>
          have hnl : n ≠ lo := fun e => by have := hL.lo; rw [← e, List.getElem?_eq_getElem hlt, hb'] at this; cases this
          have e1 : (if lo < n + 1 then lo else 0 : Nat) = (if lo < n then lo else 0 : Nat) := by
            by_cases e : lo < n
            · rw [if_pos e, if_pos (by omega)]
            · rw [if_neg e, if_neg (by omega)]
          simp -dsimp -implicitDefEqProofs only [aw, slots0, V.copy, V.lend, V.lend1, V.cells, V.boxable, over, bldV, boundV, rowsOf, plains, V.plain, Nat.reduceLeDiff, cond_true, cond_false, implies_true, eq_self, ne_eq, reduceIte, reduceCtorEq, Nat.reduceBEq, Nat.reduceLT, Nat.reduceEqDiff, Nat.reduceAdd, Nat.reduceSub, Nat.reduceMul, Int.ofNat_lt, hlt, decide_true, List.getElem?_eq_getElem hlt, hb', wn]
          refine Nxt.same (by simp) (by simp [boxesBelow, V.unders, V.under]) (by simp [slotsBelow, V.under]) ⟨g, by rw [e1], rfl, fun m hm h => ?_, hgh⟩
          by_cases e : m = n
          · subst e; rw [List.getElem?_eq_getElem hlt, hb'] at h; cases h
          · exact hgm m (by omega) h
      · have hll := (List.getElem?_eq_some_iff.1 hL.lo).1
        have hlh := (List.getElem?_eq_some_iff.1 hL.hi).1
        have e0 : (if lo < n then lo else 0 : Nat) = lo := if_pos (by omega)
        have e1 : g = hi := by have := hgm hi (by omega) hL.hi; omega
        rw [e0, e1]
        simp -dsimp -implicitDefEqProofs only [aw, slots0, V.copy, V.lend, V.lend1, V.cells, V.boxable, over, bldV, boundV, rowsOf, plains, V.plain, Nat.reduceLeDiff, cond_true, cond_false, implies_true, eq_self, ne_eq, reduceIte, reduceCtorEq, Nat.reduceBEq, Nat.reduceLT, Nat.reduceEqDiff, Nat.reduceAdd, Nat.reduceSub, Nat.reduceMul, Int.ofNat_lt, hlt, decide_false, decide_true]
        refine fun_ret (awake_fun _) ?_
        simp -dsimp -implicitDefEqProofs only [aw, slots0, V.copy, V.lend, V.lend1, V.cells, V.boxable, over, bldV, boundV, rowsOf, plains, V.plain, Nat.reduceLeDiff, cond_true, cond_false, implies_true, eq_self, ne_eq, reduceIte, reduceCtorEq, Nat.reduceBEq, Nat.reduceLT, Nat.reduceEqDiff, Nat.reduceAdd, Nat.reduceSub, Nat.reduceMul]
        exact fin_ret hb rfl rfl rfl ⟨rfl, rfl⟩
  · rw [if_neg h0] at qmin qmax
    rw [qmin] at hmn
    rw [qmax] at hmx
    simp -dsimp -implicitDefEqProofs only [aw, slots0, V.copy, V.lend, V.lend1, V.cells, V.boxable, over, bldV, boundV, rowsOf, plains, V.plain, Nat.reduceLeDiff, cond_true, cond_false, implies_true, eq_self, ne_eq, reduceIte, reduceCtorEq, Nat.reduceBEq, Nat.reduceLT, Nat.reduceEqDiff, Nat.reduceAdd, Nat.reduceSub, Nat.reduceMul, vts_eq]
    refine calm_ret (by simpa only [vts_eq] using hmn _) ?_
    simp -dsimp -implicitDefEqProofs only [aw, slots0, V.copy, V.lend, V.lend1, V.cells, V.boxable, over, bldV, boundV, rowsOf, plains, V.plain, Nat.reduceLeDiff, cond_true, cond_false, implies_true, eq_self, ne_eq, reduceIte, reduceCtorEq, Nat.reduceBEq, Nat.reduceLT, Nat.reduceEqDiff, Nat.reduceAdd, Nat.reduceSub, Nat.reduceMul]
    refine calm_ret (by simpa only [vts_eq] using hmx _) ?_
    simp -dsimp -implicitDefEqProofs only [aw, slots0, V.copy, V.lend, V.lend1, V.cells, V.boxable, over, bldV, boundV, rowsOf, plains, V.plain, Nat.reduceLeDiff, cond_true, cond_false, implies_true, eq_self, ne_eq, reduceIte, reduceCtorEq, Nat.reduceBEq, Nat.reduceLT, Nat.reduceEqDiff, Nat.reduceAdd, Nat.reduceSub, Nat.reduceMul]
    refine fun_ret (by simpa only [vts_eq] using rvalid39_fun s hs _) ?_
    simp -dsimp -implicitDefEqProofs only [aw, slots0, V.copy, V.lend, V.lend1, V.cells, V.boxable, over, bldV, boundV, rowsOf, plains, V.plain, Nat.reduceLeDiff, cond_true, cond_false, implies_true, eq_self, ne_eq, reduceIte, reduceCtorEq, Nat.reduceBEq, Nat.reduceLT, Nat.reduceEqDiff, Nat.reduceAdd, Nat.reduceSub, Nat.reduceMul, decide_eq_false h0, Int.reduceEq, decide_true]
    refine fun_ret (awake_fun _) ?_
    simp -dsimp -implicitDefEqProofs only [aw, slots0, V.copy, V.lend, V.lend1, V.cells, V.boxable, over, bldV, boundV, rowsOf, plains, V.plain, Nat.reduceLeDiff, cond_true, cond_false, implies_true, eq_self, ne_eq, reduceIte, reduceCtorEq, Nat.reduceBEq, Nat.reduceLT, Nat.reduceEqDiff, Nat.reduceAdd, Nat.reduceSub, Nat.reduceMul]
    exact fin_ret hb rfl rfl rfl ⟨rfl, rfl⟩
end Go.Proofs.YtbhippphcmkjnaaGreatDoor
