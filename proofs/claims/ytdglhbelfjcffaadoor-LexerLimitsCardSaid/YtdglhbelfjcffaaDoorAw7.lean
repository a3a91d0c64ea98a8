/-
  The law's awake.
-/
import Derived.Test.YtdglhbelfjcffaaDoorJoin7
set_option linter.unusedVariables false
set_option linter.unusedSimpArgs false
namespace Go.Proofs.YtdglhbelfjcffaaDoor
open Go.RowKit

def awTs : List Tok := [⟨1, 0, ⟨#[120, 49]⟩, 1⟩, ⟨4, 0, ⟨#[60, 61]⟩, 1⟩, ⟨3, 20, ⟨#[50, 48]⟩, 1⟩]
theorem dec20 : Lib.decDigits 20 = [50, 48] := by
  rw [Lib.decDigits, dif_neg (by decide), Lib.decDigits, dif_pos (by decide)]; rfl
theorem aw_valid : awTs.all vTok = true := by
  have h3 : vTok ⟨3, 20, ⟨#[50, 48]⟩, 1⟩ = true := by
    unfold vTok
    rw [if_pos rfl]
    show (decide ((0 : Int) ≤ 20) && decide ((20 : Int) ≤ 2147483647) && ([50, 48] == Lib.decDigits 20)) = true
    rw [dec20]; rfl
  have h1 : vTok ⟨1, 0, ⟨#[120, 49]⟩, 1⟩ = true := by decide +kernel
  have h4 : vTok ⟨4, 0, ⟨#[60, 61]⟩, 1⟩ = true := by decide +kernel
  unfold awTs
  simp only [List.all_cons, List.all_nil, h1, h3, h4, Bool.and_self]
theorem aw_toks1 (σ : List (List V)) : Fun G 10 [.d (.lit (.string ⟨#[120, 49, 60, 61, 50, 48, 47, 47, 121]⟩))] σ (RetV (.tup [.d (.sl (awTs.map tokD)), .d (dint 0), .d (dint 0)]) σ) := by
  have h := tokens_fun [120, 49, 60, 61, 50, 48, 47, 47, 121] (by decide) σ
  have e : lexR [120, 49, 60, 61, 50, 48, 47, 47, 121] = .tup [.d (.sl (awTs.map tokD)), .d (dint 0), .d (dint 0)] := by kernel_rfl
  rw [e] at h
  exact h
theorem aw_toks2 (σ : List (List V)) : Fun G 10 [.d (.lit (.string ⟨#[97, 10, 32, 48, 48, 55]⟩))] σ (RetV (.tup [.d (.sl []), .d (dint 2), .d (dint 5)]) σ) := by
  have h := tokens_fun [97, 10, 32, 48, 48, 55] (by decide) σ
  have e : lexR [97, 10, 32, 48, 48, 55] = .tup [.d (.sl []), .d (dint 2), .d (dint 5)] := by kernel_rfl
  rw [e] at h
  exact h
theorem aw_join (σ : List (List V)) : Fun G 19 [.d (.sl (awTs.map tokD))] σ (RetV (.tup [.d (dstr ⟨#[120, 49, 32, 60, 61, 32, 50, 48]⟩), .d (dint 0)]) σ) := by
  have h := lxjoin_fun awTs (by decide) (by decide) σ
  have e : joinV awTs = .tup [.d (dstr ⟨#[120, 49, 32, 60, 61, 32, 50, 48]⟩), .d (dint 0)] := by unfold joinV; rw [if_pos aw_valid]; rfl
  rw [e] at h
  exact h
theorem awake_fun (σ : List (List V)) : Fun G 9 [] σ (RetV (.d (.lit (.bool true))) σ) := by
  have n1 : nameB (bs [120, 49]) = true := by decide +kernel
  have n2 : nameB (bs [99, 108, 97, 115, 115]) = false := by decide +kernel
  have k1 : inB (bs [99, 108, 97, 115, 115]) kwList = true := by decide +kernel
  have m1 : markList.contains [35, 35] = true := by decide
  have e1 : iaV 4 (V.d (D.sl (awTs.map tokD))) (V.d (D.lit (Value.int IntKind.i64 1))) = some (.row [dint 4, dint 0, dstr ⟨#[60, 61]⟩, dint 1] 0) := rfl
  have e2 : iaV 4 (V.d (D.sl (awTs.map tokD))) (V.d (D.lit (Value.int IntKind.i64 2))) = some (.row [dint 3, dint 20, dstr ⟨#[50, 48]⟩, dint 1] 0) := rfl
  have e3 : lenV false (V.d (D.sl (awTs.map tokD))) = some (vint .i64 3) := rfl
  have heq : G.eqs 30 = true := by kernel_rfl
  have hj := aw_join
  have ht := aw_toks1
  generalize awTs.map tokD = rows at *
  refine fun_code Tryd.func9 k9 rfl fun hb hw => ?_
  unfold c9
  simp -dsimp -implicitDefEqProofs only [aw, slots0, V.copy, V.lend, V.lend1, V.cells, V.boxable, over, bldV, boundV, rowsOf, plains, V.plain, Nat.reduceLeDiff, cond_true, cond_false, implies_true, eq_self, ne_eq, reduceIte, reduceCtorEq, Nat.reduceBEq, Nat.reduceLT, Nat.reduceEqDiff, Nat.reduceAdd, Nat.reduceSub, Nat.reduceMul]
  refine fun_ret (ht _) ?_
  simp -dsimp -implicitDefEqProofs only [aw, slots0, V.copy, V.lend, V.lend1, V.cells, V.boxable, over, bldV, boundV, rowsOf, plains, V.plain, Nat.reduceLeDiff, cond_true, cond_false, implies_true, eq_self, ne_eq, reduceIte, reduceCtorEq, Nat.reduceBEq, Nat.reduceLT, Nat.reduceEqDiff, Nat.reduceAdd, Nat.reduceSub, Nat.reduceMul]
  refine fun_ret (aw_toks2 _) ?_
  simp -dsimp -implicitDefEqProofs only [aw, slots0, V.copy, V.lend, V.lend1, V.cells, V.boxable, over, bldV, boundV, rowsOf, plains, V.plain, Nat.reduceLeDiff, cond_true, cond_false, implies_true, eq_self, ne_eq, reduceIte, reduceCtorEq, Nat.reduceBEq, Nat.reduceLT, Nat.reduceEqDiff, Nat.reduceAdd, Nat.reduceSub, Nat.reduceMul]
  refine fun_ret (hj _) ?_
  simp -dsimp -implicitDefEqProofs only [aw, slots0, V.copy, V.lend, V.lend1, V.cells, V.boxable, over, bldV, boundV, rowsOf, plains, V.plain, Nat.reduceLeDiff, cond_true, cond_false, implies_true, eq_self, ne_eq, reduceIte, reduceCtorEq, Nat.reduceBEq, Nat.reduceLT, Nat.reduceEqDiff, Nat.reduceAdd, Nat.reduceSub, Nat.reduceMul, e1, e2, e3, heq, Int.reduceEq, decide_true, decide_false]
  refine fun_ret (fun_isname [120, 49] _) ?_
  rw [n1]
  simp -dsimp -implicitDefEqProofs only [aw, slots0, V.copy, V.lend, V.lend1, V.cells, V.boxable, over, bldV, boundV, rowsOf, plains, V.plain, Nat.reduceLeDiff, cond_true, cond_false, implies_true, eq_self, ne_eq, reduceIte, reduceCtorEq, Nat.reduceBEq, Nat.reduceLT, Nat.reduceEqDiff, Nat.reduceAdd, Nat.reduceSub, Nat.reduceMul]
  refine fun_ret (fun_isname [99, 108, 97, 115, 115] _) ?_
  rw [n2]
  simp -dsimp -implicitDefEqProofs only [aw, slots0, V.copy, V.lend, V.lend1, V.cells, V.boxable, over, bldV, boundV, rowsOf, plains, V.plain, Nat.reduceLeDiff, cond_true, cond_false, implies_true, eq_self, ne_eq, reduceIte, reduceCtorEq, Nat.reduceBEq, Nat.reduceLT, Nat.reduceEqDiff, Nat.reduceAdd, Nat.reduceSub, Nat.reduceMul]
  refine fun_ret (fun_iskw [99, 108, 97, 115, 115] _) ?_
  rw [k1]
  simp -dsimp -implicitDefEqProofs only [aw, slots0, V.copy, V.lend, V.lend1, V.cells, V.boxable, over, bldV, boundV, rowsOf, plains, V.plain, Nat.reduceLeDiff, cond_true, cond_false, implies_true, eq_self, ne_eq, reduceIte, reduceCtorEq, Nat.reduceBEq, Nat.reduceLT, Nat.reduceEqDiff, Nat.reduceAdd, Nat.reduceSub, Nat.reduceMul]
  refine fun_ret (fun_ismark [35, 35] _) ?_
  rw [m1]
  simp -dsimp -implicitDefEqProofs only [aw, slots0, V.copy, V.lend, V.lend1, V.cells, V.boxable, over, bldV, boundV, rowsOf, plains, V.plain, Nat.reduceLeDiff, cond_true, cond_false, implies_true, eq_self, ne_eq, reduceIte, reduceCtorEq, Nat.reduceBEq, Nat.reduceLT, Nat.reduceEqDiff, Nat.reduceAdd, Nat.reduceSub, Nat.reduceMul]
  first | exact fin_ret hb rfl rfl List.take_length ⟨rfl, rfl⟩ | (trace_state; fail "fin")
theorem toks_len : ∀ (k : Nat) (N : Int) (l : Bs) (ts : List Tok), l.length ≤ k → toksN N l = .ok ts → ts.length ≤ l.length := by
  intro k
  induction k with
  | zero =>
    intro N l ts h ht
    have : l = [] := List.eq_nil_of_length_eq_zero (by omega)
    subst this
    rw [toksN_step, skipL_nil] at ht
    cases ht; simp
  | succ k ih =>
    intro N l ts h ht
    rw [toksN_step] at ht
    have hs := (skip_suffix l).length_le
    cases hsk : skipL l with
    | nil => rw [hsk] at ht; cases ht; simp
    | cons c r =>
      rw [hsk] at ht hs
      simp only at ht
      cases hrd : readL (c :: r) with
      | err e => rw [hrd] at ht; cases ht
      | tok kd n len =>
        obtain ⟨g1, g2⟩ := read_len hrd
        rw [hrd] at ht
        simp only at ht
        have hdl := List.length_drop (l := c :: r) (i := len)
        cases hq : toksN N ((c :: r).drop len) with
        | err x e => rw [hq] at ht; cases ht
        | ok us =>
          rw [hq] at ht
          cases ht
          have := ih N _ us (by omega) hq
          simp only [List.length_cons] at *
          omega
theorem lexerTokens_fun (l : Bs) : Fun G 3 [.d (dstr (bs l))] [] (RetV (.d (.lit (.bool true))) []) := by
  refine fun_code Tryd.func3 k3 rfl fun hb hw => ?_
  unfold c3
  by_cases hbig : 1000 < l.length
  · have hbig' : (1000 : Int) < ((l.length : Nat) : Int) := by omega
    simp -dsimp -implicitDefEqProofs only [aw, slots0, V.copy, V.lend, V.lend1, V.cells, V.boxable, over, bldV, boundV, rowsOf, plains, V.plain, Nat.reduceLeDiff, cond_true, cond_false, implies_true, eq_self, ne_eq, reduceIte, reduceCtorEq, Nat.reduceBEq, Nat.reduceLT, Nat.reduceEqDiff, Nat.reduceAdd, Nat.reduceSub, Nat.reduceMul, bs_size, decide_eq_true hbig']
    refine fun_ret (awake_fun _) ?_
    simp -dsimp -implicitDefEqProofs only [aw, slots0, V.copy, V.lend, V.lend1, V.cells, V.boxable, over, bldV, boundV, rowsOf, plains, V.plain, Nat.reduceLeDiff, cond_true, cond_false, implies_true, eq_self, ne_eq, reduceIte, reduceCtorEq, Nat.reduceBEq, Nat.reduceLT, Nat.reduceEqDiff, Nat.reduceAdd, Nat.reduceSub, Nat.reduceMul]
    first | exact fin_ret hb rfl rfl List.take_length ⟨rfl, rfl⟩ | (trace_state; fail "fin")
  · have hbig' : ¬ (1000 : Int) < ((l.length : Nat) : Int) := by omega
    have hR : lexR l = lexV (toksL l) := by unfold lexR; rw [if_neg (by omega)]
    have ht := tokens_fun l (by omega)
    have hr := r7tokens_fun l (by omega)
    rw [hR] at ht hr
    cases hx : toksL l with
    | ok ts =>
      have hlen := toks_len _ _ l ts (Nat.le_refl _) hx
      rw [hx] at ht hr
      unfold lexV at ht hr
      simp -dsimp -implicitDefEqProofs only [aw, slots0, V.copy, V.lend, V.lend1, V.cells, V.boxable, over, bldV, boundV, rowsOf, plains, V.plain, Nat.reduceLeDiff, cond_true, cond_false, implies_true, eq_self, ne_eq, reduceIte, reduceCtorEq, Nat.reduceBEq, Nat.reduceLT, Nat.reduceEqDiff, Nat.reduceAdd, Nat.reduceSub, Nat.reduceMul, bs_size, decide_eq_false hbig']
      refine fun_ret (ht _) ?_
      simp -dsimp -implicitDefEqProofs only [aw, slots0, V.copy, V.lend, V.lend1, V.cells, V.boxable, over, bldV, boundV, rowsOf, plains, V.plain, Nat.reduceLeDiff, cond_true, cond_false, implies_true, eq_self, ne_eq, reduceIte, reduceCtorEq, Nat.reduceBEq, Nat.reduceLT, Nat.reduceEqDiff, Nat.reduceAdd, Nat.reduceSub, Nat.reduceMul]
      refine fun_ret (hr _) ?_
      simp -dsimp -implicitDefEqProofs only [aw, slots0, V.copy, V.lend, V.lend1, V.cells, V.boxable, over, bldV, boundV, rowsOf, plains, V.plain, Nat.reduceLeDiff, cond_true, cond_false, implies_true, eq_self, ne_eq, reduceIte, reduceCtorEq, Nat.reduceBEq, Nat.reduceLT, Nat.reduceEqDiff, Nat.reduceAdd, Nat.reduceSub, Nat.reduceMul]
      refine fun_ret (r7same_fun ts (by omega) _) ?_
      simp -dsimp -implicitDefEqProofs only [aw, slots0, V.copy, V.lend, V.lend1, V.cells, V.boxable, over, bldV, boundV, rowsOf, plains, V.plain, Nat.reduceLeDiff, cond_true, cond_false, implies_true, eq_self, ne_eq, reduceIte, reduceCtorEq, Nat.reduceBEq, Nat.reduceLT, Nat.reduceEqDiff, Nat.reduceAdd, Nat.reduceSub, Nat.reduceMul, decide_true]
      refine fun_ret (awake_fun _) ?_
      simp -dsimp -implicitDefEqProofs only [aw, slots0, V.copy, V.lend, V.lend1, V.cells, V.boxable, over, bldV, boundV, rowsOf, plains, V.plain, Nat.reduceLeDiff, cond_true, cond_false, implies_true, eq_self, ne_eq, reduceIte, reduceCtorEq, Nat.reduceBEq, Nat.reduceLT, Nat.reduceEqDiff, Nat.reduceAdd, Nat.reduceSub, Nat.reduceMul]
      first | exact fin_ret hb rfl rfl List.take_length ⟨rfl, rfl⟩ | (trace_state; fail "fin")
    | err n e =>
      rw [hx] at ht hr
      unfold lexV at ht hr
      simp -dsimp -implicitDefEqProofs only [aw, slots0, V.copy, V.lend, V.lend1, V.cells, V.boxable, over, bldV, boundV, rowsOf, plains, V.plain, Nat.reduceLeDiff, cond_true, cond_false, implies_true, eq_self, ne_eq, reduceIte, reduceCtorEq, Nat.reduceBEq, Nat.reduceLT, Nat.reduceEqDiff, Nat.reduceAdd, Nat.reduceSub, Nat.reduceMul, bs_size, decide_eq_false hbig']
      refine fun_ret (ht _) ?_
      simp -dsimp -implicitDefEqProofs only [aw, slots0, V.copy, V.lend, V.lend1, V.cells, V.boxable, over, bldV, boundV, rowsOf, plains, V.plain, Nat.reduceLeDiff, cond_true, cond_false, implies_true, eq_self, ne_eq, reduceIte, reduceCtorEq, Nat.reduceBEq, Nat.reduceLT, Nat.reduceEqDiff, Nat.reduceAdd, Nat.reduceSub, Nat.reduceMul]
      refine fun_ret (hr _) ?_
      simp -dsimp -implicitDefEqProofs only [aw, slots0, V.copy, V.lend, V.lend1, V.cells, V.boxable, over, bldV, boundV, rowsOf, plains, V.plain, Nat.reduceLeDiff, cond_true, cond_false, implies_true, eq_self, ne_eq, reduceIte, reduceCtorEq, Nat.reduceBEq, Nat.reduceLT, Nat.reduceEqDiff, Nat.reduceAdd, Nat.reduceSub, Nat.reduceMul]
      refine fun_ret (r7same_fun [] (by decide) _) ?_
      simp -dsimp -implicitDefEqProofs only [aw, slots0, V.copy, V.lend, V.lend1, V.cells, V.boxable, over, bldV, boundV, rowsOf, plains, V.plain, Nat.reduceLeDiff, cond_true, cond_false, implies_true, eq_self, ne_eq, reduceIte, reduceCtorEq, Nat.reduceBEq, Nat.reduceLT, Nat.reduceEqDiff, Nat.reduceAdd, Nat.reduceSub, Nat.reduceMul, decide_true]
      refine fun_ret (awake_fun _) ?_
      simp -dsimp -implicitDefEqProofs only [aw, slots0, V.copy, V.lend, V.lend1, V.cells, V.boxable, over, bldV, boundV, rowsOf, plains, V.plain, Nat.reduceLeDiff, cond_true, cond_false, implies_true, eq_self, ne_eq, reduceIte, reduceCtorEq, Nat.reduceBEq, Nat.reduceLT, Nat.reduceEqDiff, Nat.reduceAdd, Nat.reduceSub, Nat.reduceMul]
      first | exact fin_ret hb rfl rfl List.take_length ⟨rfl, rfl⟩ | (trace_state; fail "fin")
end Go.Proofs.YtdglhbelfjcffaaDoor
