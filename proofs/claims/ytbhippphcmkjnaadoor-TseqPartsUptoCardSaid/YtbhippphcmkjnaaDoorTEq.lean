/-
  The laws TseqParts and TseqEqual: their walks.
-/
import Derived.Test.YtbhippphcmkjnaaDoorTAw
import Derived.Test.YtbhippphcmkjnaaDoorTLaw
set_option linter.unusedVariables false
set_option linter.unusedSimpArgs false
namespace Go.Proofs.YtbhippphcmkjnaaDoor
open Go.RowKit

theorem same39_fun (l : List ByteArray) (hl : l.length ≤ 1000000) (σ : List (List V)) : Fun G 13 [.d (dstrs l), .d (dstrs l)] σ (RetV (vbool true) σ) := by
  refine fun_code Tryd.func13 k13 rfl fun hb hw => ?_
  unfold c13
  simp -dsimp -implicitDefEqProofs only [aw, slots0, V.copy, V.lend, V.lend1, V.cells, V.boxable, over, bldV, boundV, rowsOf, plains, V.plain, Nat.reduceLeDiff, cond_true, cond_false, implies_true, eq_self, ne_eq, reduceIte, reduceCtorEq, Nat.reduceBEq, Nat.reduceLT, Nat.reduceEqDiff, Nat.reduceAdd, Nat.reduceSub, Nat.reduceMul, dstrs, decide_true, Bool.not_true]
  refine awp_forK [0, 1, 12, 13] (R := fun (j : Nat) ρ σ' => ρ = [(0, .d (.sl (l.map fun s => [dstr s]))), (1, .d (.sl (l.map fun s => [dstr s]))), (12, vint .i64 l.length), (13, vint .i64 j)] ∧ σ' = σ) l.length ⟨rfl, rfl⟩ ?_ _
  rintro j ρ' σ' hj ⟨rfl, rfl⟩
  by_cases hlt : j < l.length
  · simp -dsimp -implicitDefEqProofs only [aw, slots0, V.copy, V.lend, V.lend1, V.cells, V.boxable, over, bldV, boundV, rowsOf, plains, V.plain, Nat.reduceLeDiff, cond_true, cond_false, implies_true, eq_self, ne_eq, reduceIte, reduceCtorEq, Nat.reduceBEq, Nat.reduceLT, Nat.reduceEqDiff, Nat.reduceAdd, Nat.reduceSub, Nat.reduceMul, Int.ofNat_lt, hlt, decide_true, decide_false, List.getElem?_eq_getElem hlt, wrap_nat hlt (show l.length ≤ 9223372036854775807 by omega)]
    exact Nxt.same (Nat.le_refl _) hb rfl ⟨rfl, rfl⟩
  · simp -dsimp -implicitDefEqProofs only [aw, slots0, V.copy, V.lend, V.lend1, V.cells, V.boxable, over, bldV, boundV, rowsOf, plains, V.plain, Nat.reduceLeDiff, cond_true, cond_false, implies_true, eq_self, ne_eq, reduceIte, reduceCtorEq, Nat.reduceBEq, Nat.reduceLT, Nat.reduceEqDiff, Nat.reduceAdd, Nat.reduceSub, Nat.reduceMul, Int.ofNat_lt, hlt, decide_false]
    first | exact fin_ret hb rfl rfl List.take_length ⟨rfl, rfl⟩ | exact fin_ret hb rfl rfl List.take_left ⟨rfl, rfl⟩ | (trace_state; fail "fin")
theorem locT_len (s : Ts) : (locT s).length ≤ tsz s := by
  unfold locT
  split
  · have := srt_len (tnm s); have := tnm_len s; omega
  · simp
theorem tseqEqual_fun (a b : Ts) (ha : tbig a ≤ 1000000) (hbb : tbig b ≤ 1000000) : Fun G 4 [vts a, vts b] [] (RetV (.d (.lit (.bool true))) []) := by
  by_cases e : a = b
  · subst e
    have hs := fun σ => tsame_fun a a ha σ
    have hr := fun σ => rtsame_fun a a ha σ
    rw [sameT_refl] at hs hr
    have hloc : (locT a).length ≤ 1000000 := by have := locT_len a; have := tsz_le a; omega
    refine fun_code Tryd.func4 k4 (by simp only [vts_eq]; rfl) fun hb hw => ?_
    unfold c4
    simp -dsimp -implicitDefEqProofs only [aw, slots0, V.copy, V.lend, V.lend1, V.cells, V.boxable, over, bldV, boundV, rowsOf, plains, V.plain, Nat.reduceLeDiff, cond_true, cond_false, implies_true, eq_self, ne_eq, reduceIte, reduceCtorEq, Nat.reduceBEq, Nat.reduceLT, Nat.reduceEqDiff, Nat.reduceAdd, Nat.reduceSub, Nat.reduceMul, vts_eq]
    refine fun_ret (by simpa only [vts_eq] using hs _) ?_
    simp -dsimp -implicitDefEqProofs only [aw, slots0, V.copy, V.lend, V.lend1, V.cells, V.boxable, over, bldV, boundV, rowsOf, plains, V.plain, Nat.reduceLeDiff, cond_true, cond_false, implies_true, eq_self, ne_eq, reduceIte, reduceCtorEq, Nat.reduceBEq, Nat.reduceLT, Nat.reduceEqDiff, Nat.reduceAdd, Nat.reduceSub, Nat.reduceMul]
    refine fun_ret (by simpa only [vts_eq] using hr _) ?_
    simp -dsimp -implicitDefEqProofs only [aw, slots0, V.copy, V.lend, V.lend1, V.cells, V.boxable, over, bldV, boundV, rowsOf, plains, V.plain, Nat.reduceLeDiff, cond_true, cond_false, implies_true, eq_self, ne_eq, reduceIte, reduceCtorEq, Nat.reduceBEq, Nat.reduceLT, Nat.reduceEqDiff, Nat.reduceAdd, Nat.reduceSub, Nat.reduceMul, beq_self_eq_true, Bool.not_true]
    refine fun_ret (by simpa only [vts_eq] using hs _) ?_
    simp -dsimp -implicitDefEqProofs only [aw, slots0, V.copy, V.lend, V.lend1, V.cells, V.boxable, over, bldV, boundV, rowsOf, plains, V.plain, Nat.reduceLeDiff, cond_true, cond_false, implies_true, eq_self, ne_eq, reduceIte, reduceCtorEq, Nat.reduceBEq, Nat.reduceLT, Nat.reduceEqDiff, Nat.reduceAdd, Nat.reduceSub, Nat.reduceMul, beq_self_eq_true, Bool.not_true]
    refine fun_ret (by simpa only [vts_eq] using hs _) ?_
    simp -dsimp -implicitDefEqProofs only [aw, slots0, V.copy, V.lend, V.lend1, V.cells, V.boxable, over, bldV, boundV, rowsOf, plains, V.plain, Nat.reduceLeDiff, cond_true, cond_false, implies_true, eq_self, ne_eq, reduceIte, reduceCtorEq, Nat.reduceBEq, Nat.reduceLT, Nat.reduceEqDiff, Nat.reduceAdd, Nat.reduceSub, Nat.reduceMul, beq_self_eq_true, Bool.not_true]
    refine fun_ret (by simpa only [vts_eq] using hs _) ?_
    simp -dsimp -implicitDefEqProofs only [aw, slots0, V.copy, V.lend, V.lend1, V.cells, V.boxable, over, bldV, boundV, rowsOf, plains, V.plain, Nat.reduceLeDiff, cond_true, cond_false, implies_true, eq_self, ne_eq, reduceIte, reduceCtorEq, Nat.reduceBEq, Nat.reduceLT, Nat.reduceEqDiff, Nat.reduceAdd, Nat.reduceSub, Nat.reduceMul, beq_self_eq_true, Bool.not_true]
    refine calm_ret (by simpa only [vts_eq] using tvalid_fun a ha _) ?_
    simp -dsimp -implicitDefEqProofs only [aw, slots0, V.copy, V.lend, V.lend1, V.cells, V.boxable, over, bldV, boundV, rowsOf, plains, V.plain, Nat.reduceLeDiff, cond_true, cond_false, implies_true, eq_self, ne_eq, reduceIte, reduceCtorEq, Nat.reduceBEq, Nat.reduceLT, Nat.reduceEqDiff, Nat.reduceAdd, Nat.reduceSub, Nat.reduceMul]
    refine calm_ret (by simpa only [vts_eq] using tvalid_fun a ha _) ?_
    simp -dsimp -implicitDefEqProofs only [aw, slots0, V.copy, V.lend, V.lend1, V.cells, V.boxable, over, bldV, boundV, rowsOf, plains, V.plain, Nat.reduceLeDiff, cond_true, cond_false, implies_true, eq_self, ne_eq, reduceIte, reduceCtorEq, Nat.reduceBEq, Nat.reduceLT, Nat.reduceEqDiff, Nat.reduceAdd, Nat.reduceSub, Nat.reduceMul, decide_true]
    refine calm_ret (by simpa only [vts_eq] using tsize_fun a ha _) ?_
    simp -dsimp -implicitDefEqProofs only [aw, slots0, V.copy, V.lend, V.lend1, V.cells, V.boxable, over, bldV, boundV, rowsOf, plains, V.plain, Nat.reduceLeDiff, cond_true, cond_false, implies_true, eq_self, ne_eq, reduceIte, reduceCtorEq, Nat.reduceBEq, Nat.reduceLT, Nat.reduceEqDiff, Nat.reduceAdd, Nat.reduceSub, Nat.reduceMul]
    refine calm_ret (by simpa only [vts_eq] using tsize_fun a ha _) ?_
    simp -dsimp -implicitDefEqProofs only [aw, slots0, V.copy, V.lend, V.lend1, V.cells, V.boxable, over, bldV, boundV, rowsOf, plains, V.plain, Nat.reduceLeDiff, cond_true, cond_false, implies_true, eq_self, ne_eq, reduceIte, reduceCtorEq, Nat.reduceBEq, Nat.reduceLT, Nat.reduceEqDiff, Nat.reduceAdd, Nat.reduceSub, Nat.reduceMul, decide_true]
    refine calm_ret (by simpa only [vts_eq] using tmin_fun a ha _) ?_
    simp -dsimp -implicitDefEqProofs only [aw, slots0, V.copy, V.lend, V.lend1, V.cells, V.boxable, over, bldV, boundV, rowsOf, plains, V.plain, Nat.reduceLeDiff, cond_true, cond_false, implies_true, eq_self, ne_eq, reduceIte, reduceCtorEq, Nat.reduceBEq, Nat.reduceLT, Nat.reduceEqDiff, Nat.reduceAdd, Nat.reduceSub, Nat.reduceMul]
    refine calm_ret (by simpa only [vts_eq] using tmin_fun a ha _) ?_
    simp -dsimp -implicitDefEqProofs only [aw, slots0, V.copy, V.lend, V.lend1, V.cells, V.boxable, over, bldV, boundV, rowsOf, plains, V.plain, Nat.reduceLeDiff, cond_true, cond_false, implies_true, eq_self, ne_eq, reduceIte, reduceCtorEq, Nat.reduceBEq, Nat.reduceLT, Nat.reduceEqDiff, Nat.reduceAdd, Nat.reduceSub, Nat.reduceMul, decide_true]
    refine calm_ret (by simpa only [vts_eq] using tmax_fun a ha _) ?_
    simp -dsimp -implicitDefEqProofs only [aw, slots0, V.copy, V.lend, V.lend1, V.cells, V.boxable, over, bldV, boundV, rowsOf, plains, V.plain, Nat.reduceLeDiff, cond_true, cond_false, implies_true, eq_self, ne_eq, reduceIte, reduceCtorEq, Nat.reduceBEq, Nat.reduceLT, Nat.reduceEqDiff, Nat.reduceAdd, Nat.reduceSub, Nat.reduceMul]
    refine calm_ret (by simpa only [vts_eq] using tmax_fun a ha _) ?_
    simp -dsimp -implicitDefEqProofs only [aw, slots0, V.copy, V.lend, V.lend1, V.cells, V.boxable, over, bldV, boundV, rowsOf, plains, V.plain, Nat.reduceLeDiff, cond_true, cond_false, implies_true, eq_self, ne_eq, reduceIte, reduceCtorEq, Nat.reduceBEq, Nat.reduceLT, Nat.reduceEqDiff, Nat.reduceAdd, Nat.reduceSub, Nat.reduceMul, decide_true]
    refine calm_ret (by simpa only [vts_eq] using tlocals_fun a ha _) ?_
    simp -dsimp -implicitDefEqProofs only [aw, slots0, V.copy, V.lend, V.lend1, V.cells, V.boxable, over, bldV, boundV, rowsOf, plains, V.plain, Nat.reduceLeDiff, cond_true, cond_false, implies_true, eq_self, ne_eq, reduceIte, reduceCtorEq, Nat.reduceBEq, Nat.reduceLT, Nat.reduceEqDiff, Nat.reduceAdd, Nat.reduceSub, Nat.reduceMul]
    refine calm_ret (by simpa only [vts_eq] using tlocals_fun a ha _) ?_
    simp -dsimp -implicitDefEqProofs only [aw, slots0, V.copy, V.lend, V.lend1, V.cells, V.boxable, over, bldV, boundV, rowsOf, plains, V.plain, Nat.reduceLeDiff, cond_true, cond_false, implies_true, eq_self, ne_eq, reduceIte, reduceCtorEq, Nat.reduceBEq, Nat.reduceLT, Nat.reduceEqDiff, Nat.reduceAdd, Nat.reduceSub, Nat.reduceMul]
    refine calm_ret (same39_fun (locT a) hloc _) ?_
    simp -dsimp -implicitDefEqProofs only [aw, slots0, V.copy, V.lend, V.lend1, V.cells, V.boxable, over, bldV, boundV, rowsOf, plains, V.plain, Nat.reduceLeDiff, cond_true, cond_false, implies_true, eq_self, ne_eq, reduceIte, reduceCtorEq, Nat.reduceBEq, Nat.reduceLT, Nat.reduceEqDiff, Nat.reduceAdd, Nat.reduceSub, Nat.reduceMul]
    refine calm_ret (awake_fun _) ?_
    simp -dsimp -implicitDefEqProofs only [aw, slots0, V.copy, V.lend, V.lend1, V.cells, V.boxable, over, bldV, boundV, rowsOf, plains, V.plain, Nat.reduceLeDiff, cond_true, cond_false, implies_true, eq_self, ne_eq, reduceIte, reduceCtorEq, Nat.reduceBEq, Nat.reduceLT, Nat.reduceEqDiff, Nat.reduceAdd, Nat.reduceSub, Nat.reduceMul]
    exact fin_ret hb rfl rfl List.take_left ⟨rfl, rfl⟩
  · have h1 : sameT a b = false := Bool.eq_false_iff.2 fun h => e ((sameT_iff a b).1 h)
    have hs := fun σ => tsame_fun a b ha σ
    have hr := fun σ => rtsame_fun a b ha σ
    have hy := fun σ => tsame_fun b a hbb σ
    have hsa := fun σ => tsame_fun a a ha σ
    have hsb := fun σ => tsame_fun b b hbb σ
    rw [sameT_symm a b] at hy
    rw [h1] at hs hr hy
    rw [sameT_refl] at hsa hsb
    refine fun_code Tryd.func4 k4 (by simp only [vts_eq]; rfl) fun hb hw => ?_
    unfold c4
    simp -dsimp -implicitDefEqProofs only [aw, slots0, V.copy, V.lend, V.lend1, V.cells, V.boxable, over, bldV, boundV, rowsOf, plains, V.plain, Nat.reduceLeDiff, cond_true, cond_false, implies_true, eq_self, ne_eq, reduceIte, reduceCtorEq, Nat.reduceBEq, Nat.reduceLT, Nat.reduceEqDiff, Nat.reduceAdd, Nat.reduceSub, Nat.reduceMul, vts_eq]
    refine fun_ret (by simpa only [vts_eq] using hs _) ?_
    simp -dsimp -implicitDefEqProofs only [aw, slots0, V.copy, V.lend, V.lend1, V.cells, V.boxable, over, bldV, boundV, rowsOf, plains, V.plain, Nat.reduceLeDiff, cond_true, cond_false, implies_true, eq_self, ne_eq, reduceIte, reduceCtorEq, Nat.reduceBEq, Nat.reduceLT, Nat.reduceEqDiff, Nat.reduceAdd, Nat.reduceSub, Nat.reduceMul]
    refine fun_ret (by simpa only [vts_eq] using hr _) ?_
    simp -dsimp -implicitDefEqProofs only [aw, slots0, V.copy, V.lend, V.lend1, V.cells, V.boxable, over, bldV, boundV, rowsOf, plains, V.plain, Nat.reduceLeDiff, cond_true, cond_false, implies_true, eq_self, ne_eq, reduceIte, reduceCtorEq, Nat.reduceBEq, Nat.reduceLT, Nat.reduceEqDiff, Nat.reduceAdd, Nat.reduceSub, Nat.reduceMul, beq_self_eq_true, Bool.not_true]
    refine fun_ret (by simpa only [vts_eq] using hy _) ?_
    simp -dsimp -implicitDefEqProofs only [aw, slots0, V.copy, V.lend, V.lend1, V.cells, V.boxable, over, bldV, boundV, rowsOf, plains, V.plain, Nat.reduceLeDiff, cond_true, cond_false, implies_true, eq_self, ne_eq, reduceIte, reduceCtorEq, Nat.reduceBEq, Nat.reduceLT, Nat.reduceEqDiff, Nat.reduceAdd, Nat.reduceSub, Nat.reduceMul, beq_self_eq_true, Bool.not_true]
    refine fun_ret (by simpa only [vts_eq] using hsa _) ?_
    simp -dsimp -implicitDefEqProofs only [aw, slots0, V.copy, V.lend, V.lend1, V.cells, V.boxable, over, bldV, boundV, rowsOf, plains, V.plain, Nat.reduceLeDiff, cond_true, cond_false, implies_true, eq_self, ne_eq, reduceIte, reduceCtorEq, Nat.reduceBEq, Nat.reduceLT, Nat.reduceEqDiff, Nat.reduceAdd, Nat.reduceSub, Nat.reduceMul, beq_self_eq_true, Bool.not_true]
    refine fun_ret (by simpa only [vts_eq] using hsb _) ?_
    simp -dsimp -implicitDefEqProofs only [aw, slots0, V.copy, V.lend, V.lend1, V.cells, V.boxable, over, bldV, boundV, rowsOf, plains, V.plain, Nat.reduceLeDiff, cond_true, cond_false, implies_true, eq_self, ne_eq, reduceIte, reduceCtorEq, Nat.reduceBEq, Nat.reduceLT, Nat.reduceEqDiff, Nat.reduceAdd, Nat.reduceSub, Nat.reduceMul, beq_self_eq_true, Bool.not_true]
    refine calm_ret (awake_fun _) ?_
    simp -dsimp -implicitDefEqProofs only [aw, slots0, V.copy, V.lend, V.lend1, V.cells, V.boxable, over, bldV, boundV, rowsOf, plains, V.plain, Nat.reduceLeDiff, cond_true, cond_false, implies_true, eq_self, ne_eq, reduceIte, reduceCtorEq, Nat.reduceBEq, Nat.reduceLT, Nat.reduceEqDiff, Nat.reduceAdd, Nat.reduceSub, Nat.reduceMul]
    exact fin_ret hb rfl rfl List.take_left ⟨rfl, rfl⟩
abbrev szs (l : List Ts) : Nat := (l.map tsz).sum
theorem szs_take {l : List Ts} {j : Nat} (h : j < l.length) : szs (l.take (j + 1)) = szs (l.take j) + tsz l[j] := by
  unfold szs
  rw [List.take_add_one, List.getElem?_eq_getElem h, List.map_append, List.sum_append]
  show _ + (tsz l[j] + 0) = _
  omega
theorem szs_le (l : List Ts) (j : Nat) : szs (l.take j) ≤ szs l := by
  unfold szs
  conv => rhs; rw [← List.take_append_drop j l, List.map_append, List.sum_append]
  omega
set_option maxHeartbeats 1000000 in
theorem tseqParts_fun (s : Ts) (hs : tbig s ≤ 1000000) : Fun G 3 [vts s] [] (RetV (.d (.lit (.bool true))) []) := by
  have hln := tbig_len s
  have hsz : tsz s = 1 + szs s.args := tsz_eq s
  have hle := tsz_le s
  have hll : (locT s).length ≤ 1000000 := by have := locT_len s; omega
  refine fun_code Tryd.func3 k3 (by simp only [vts_eq]; rfl) fun hb hw => ?_
  unfold c3
  by_cases h0 : validT s = 0
  · simp -dsimp -implicitDefEqProofs only [aw, slots0, V.copy, V.lend, V.lend1, V.cells, V.boxable, over, bldV, boundV, rowsOf, plains, V.plain, Nat.reduceLeDiff, cond_true, cond_false, implies_true, eq_self, ne_eq, reduceIte, reduceCtorEq, Nat.reduceBEq, Nat.reduceLT, Nat.reduceEqDiff, Nat.reduceAdd, Nat.reduceSub, Nat.reduceMul, vts_eq]
    refine fun_ret (by simpa only [vts_eq] using tlocals_fun s hs _) ?_
    simp -dsimp -implicitDefEqProofs only [aw, slots0, V.copy, V.lend, V.lend1, V.cells, V.boxable, over, bldV, boundV, rowsOf, plains, V.plain, Nat.reduceLeDiff, cond_true, cond_false, implies_true, eq_self, ne_eq, reduceIte, reduceCtorEq, Nat.reduceBEq, Nat.reduceLT, Nat.reduceEqDiff, Nat.reduceAdd, Nat.reduceSub, Nat.reduceMul]
    refine fun_ret (by simpa only [vts_eq] using tvalid_fun s hs _) ?_
    simp -dsimp -implicitDefEqProofs only [aw, slots0, V.copy, V.lend, V.lend1, V.cells, V.boxable, over, bldV, boundV, rowsOf, plains, V.plain, Nat.reduceLeDiff, cond_true, cond_false, implies_true, eq_self, ne_eq, reduceIte, reduceCtorEq, Nat.reduceBEq, Nat.reduceLT, Nat.reduceEqDiff, Nat.reduceAdd, Nat.reduceSub, Nat.reduceMul, h0, Int.reduceEq, decide_true, decide_false]
    refine awp_forK [1, 3, 4, 5, 19, 20, 21] (R := fun (j : Nat) ρ σ' => ρ = [(1, .ptr 0 0), (3, .d (dint ((1 + szs (s.args.take j) : Nat) : Int))), (4, .d (dstrs (locT s))), (5, vbool true), (19, .d (.sl (s.args.map dts))), (20, vint .i64 s.args.length), (21, vint .i64 j)] ∧ σ' = [boxT s]) s.args.length ⟨by simp [szs]; rfl, rfl⟩ ?_ _
    rintro j ρ' σ' hj ⟨rfl, rfl⟩
    by_cases hlt : j < s.args.length
    · have hmem := List.getElem_mem hlt
      have ht := szs_take hlt
      have hle2 := szs_le s.args (j + 1)
      have hba := tbig_arg hmem
      have hla : (locT s.args[j]).length ≤ 1000000 := by have := locT_len s.args[j]; have := tsz_le s.args[j]; omega
      have hw1 : IntKind.i64.wrap (((1 + szs (s.args.take j) : Nat) : Int) + (tsz s.args[j] : Nat)) = ((1 + szs (s.args.take (j + 1)) : Nat) : Int) := by rw [wrap_i64 (by omega) (by omega), ht]; omega
      generalize hgs : s.args[j] = a at *
      simp -dsimp -implicitDefEqProofs only [aw, slots0, V.copy, V.lend, V.lend1, V.cells, V.boxable, over, bldV, boundV, rowsOf, plains, V.plain, Nat.reduceLeDiff, cond_true, cond_false, implies_true, eq_self, ne_eq, reduceIte, reduceCtorEq, Nat.reduceBEq, Nat.reduceLT, Nat.reduceEqDiff, Nat.reduceAdd, Nat.reduceSub, Nat.reduceMul, Int.ofNat_lt, hlt, decide_true, List.getElem?_eq_getElem hlt, hgs, dts_eq a]
      refine fun_ret (by simpa only [vts_eq] using tsize_fun a (by omega) _) ?_
      simp -dsimp -implicitDefEqProofs only [aw, slots0, V.copy, V.lend, V.lend1, V.cells, V.boxable, over, bldV, boundV, rowsOf, plains, V.plain, Nat.reduceLeDiff, cond_true, cond_false, implies_true, eq_self, ne_eq, reduceIte, reduceCtorEq, Nat.reduceBEq, Nat.reduceLT, Nat.reduceEqDiff, Nat.reduceAdd, Nat.reduceSub, Nat.reduceMul, hw1]
      have hva := validT_arg h0 hmem
      refine fun_ret (by simpa only [vts_eq] using tvalid_fun a (by omega) _) ?_
      simp -dsimp -implicitDefEqProofs only [aw, slots0, V.copy, V.lend, V.lend1, V.cells, V.boxable, over, bldV, boundV, rowsOf, plains, V.plain, Nat.reduceLeDiff, cond_true, cond_false, implies_true, eq_self, ne_eq, reduceIte, reduceCtorEq, Nat.reduceBEq, Nat.reduceLT, Nat.reduceEqDiff, Nat.reduceAdd, Nat.reduceSub, Nat.reduceMul, hva, Int.reduceEq, decide_true, decide_false, Bool.not_true]
      refine fun_ret (by simpa only [vts_eq] using tlocals_fun a (by omega) _) ?_
      simp -dsimp -implicitDefEqProofs only [aw, slots0, V.copy, V.lend, V.lend1, V.cells, V.boxable, over, bldV, boundV, rowsOf, plains, V.plain, Nat.reduceLeDiff, cond_true, cond_false, implies_true, eq_self, ne_eq, reduceIte, reduceCtorEq, Nat.reduceBEq, Nat.reduceLT, Nat.reduceEqDiff, Nat.reduceAdd, Nat.reduceSub, Nat.reduceMul, dstrs]
      refine awp_forK [1, 3, 4, 5, 19, 20, 21, 36, 37, 38] (R := fun (i : Nat) ρ σ' => ρ = [(1, .ptr 0 0), (3, .d (dint ((1 + szs (s.args.take (j + 1)) : Nat) : Int))), (4, .d (.sl ((locT s).map fun s => [dstr s]))), (5, vbool true), (19, .d (.sl (s.args.map dts))), (20, vint .i64 s.args.length), (21, vint .i64 j), (36, .d (.sl ((locT a).map fun s => [dstr s]))), (37, vint .i64 (locT a).length), (38, vint .i64 i)] ∧ σ' = [boxT s, boxT a]) (locT a).length ⟨rfl, rfl⟩ ?_ _
      rintro i ρ' σ' hi ⟨rfl, rfl⟩
      by_cases hli : i < (locT a).length
      · have hin := List.getElem_mem hli
        simp -dsimp -implicitDefEqProofs only [aw, slots0, V.copy, V.lend, V.lend1, V.cells, V.boxable, over, bldV, boundV, rowsOf, plains, V.plain, Nat.reduceLeDiff, cond_true, cond_false, implies_true, eq_self, ne_eq, reduceIte, reduceCtorEq, Nat.reduceBEq, Nat.reduceLT, Nat.reduceEqDiff, Nat.reduceAdd, Nat.reduceSub, Nat.reduceMul, Int.ofNat_lt, hli, decide_true, List.getElem?_eq_getElem hli]
        generalize hnm : (locT a)[i] = nm at *
        refine awp_forK [1, 3, 4, 5, 9, 10, 19, 20, 21, 36, 37, 38, 44, 45, 46] (R := fun (k : Nat) ρ σ' => ρ = [(1, .ptr 0 0), (3, .d (dint ((1 + szs (s.args.take (j + 1)) : Nat) : Int))), (4, .d (.sl ((locT s).map fun s => [dstr s]))), (5, vbool true), (9, .d (dstr nm)), (10, vbool (false || ((locT s).take k).any fun x => decide (x = nm))), (19, .d (.sl (s.args.map dts))), (20, vint .i64 s.args.length), (21, vint .i64 j), (36, .d (.sl ((locT a).map fun s => [dstr s]))), (37, vint .i64 (locT a).length), (38, vint .i64 i), (44, .d (.sl ((locT s).map fun s => [dstr s]))), (45, vint .i64 (locT s).length), (46, vint .i64 k)] ∧ σ' = [boxT s, boxT a]) (locT s).length ⟨rfl, rfl⟩ ?_ _
        rintro k ρ' σ' hk ⟨rfl, rfl⟩
        by_cases hlk : k < (locT s).length
        · have hz : ((locT s).take (k + 1)).any (fun x => decide (x = nm)) = (((locT s).take k).any (fun x => decide (x = nm)) || decide ((locT s)[k] = nm)) := by
            rw [List.take_add_one, List.getElem?_eq_getElem hlk, List.any_append]; simp
          simp -dsimp -implicitDefEqProofs only [aw, slots0, V.copy, V.lend, V.lend1, V.cells, V.boxable, over, bldV, boundV, rowsOf, plains, V.plain, Nat.reduceLeDiff, cond_true, cond_false, implies_true, eq_self, ne_eq, reduceIte, reduceCtorEq, Nat.reduceBEq, Nat.reduceLT, Nat.reduceEqDiff, Nat.reduceAdd, Nat.reduceSub, Nat.reduceMul, Int.ofNat_lt, hlk, decide_true, List.getElem?_eq_getElem hlk, wrap_nat hlk (show (locT s).length ≤ 9223372036854775807 by omega)]
          first | exact ⟨hlk, Nxt.same (by simp) (by simp [boxesBelow, V.unders, V.under]) (by simp [slotsBelow, V.under]) ⟨by rw [hz]; rfl, rfl⟩⟩ | (cases hx : ((locT s).take k).any fun x => decide (x = nm)) <;> rw [hx] at hz <;> simp -dsimp -implicitDefEqProofs only [aw, slots0, V.copy, V.lend, V.lend1, V.cells, V.boxable, over, bldV, boundV, rowsOf, plains, V.plain, Nat.reduceLeDiff, cond_true, cond_false, implies_true, eq_self, ne_eq, reduceIte, reduceCtorEq, Nat.reduceBEq, Nat.reduceLT, Nat.reduceEqDiff, Nat.reduceAdd, Nat.reduceSub, Nat.reduceMul, wrap_nat hlk (show (locT s).length ≤ 9223372036854775807 by omega)] <;> exact ⟨hlk, Nxt.same (by simp) (by simp [boxesBelow, V.unders, V.under]) (by simp [slotsBelow, V.under]) ⟨by rw [hz]; first | (simp; done) | (simp; rfl), rfl⟩⟩
        · simp -dsimp -implicitDefEqProofs only [aw, slots0, V.copy, V.lend, V.lend1, V.cells, V.boxable, over, bldV, boundV, rowsOf, plains, V.plain, Nat.reduceLeDiff, cond_true, cond_false, implies_true, eq_self, ne_eq, reduceIte, reduceCtorEq, Nat.reduceBEq, Nat.reduceLT, Nat.reduceEqDiff, Nat.reduceAdd, Nat.reduceSub, Nat.reduceMul, Int.ofNat_lt, hlk, decide_false]
          rw [List.take_of_length_le (show (locT s).length ≤ k by omega)]
          have hf : ((locT s).any fun x => decide (x = nm)) = true := by rw [List.any_eq_true]; exact ⟨nm, locT_arg h0 hmem (hnm ▸ hin), by simp⟩
          rw [hf]
          simp -dsimp -implicitDefEqProofs only [aw, slots0, V.copy, V.lend, V.lend1, V.cells, V.boxable, over, bldV, boundV, rowsOf, plains, V.plain, Nat.reduceLeDiff, cond_true, cond_false, implies_true, eq_self, ne_eq, reduceIte, reduceCtorEq, Nat.reduceBEq, Nat.reduceLT, Nat.reduceEqDiff, Nat.reduceAdd, Nat.reduceSub, Nat.reduceMul, Bool.not_true, wrap_nat hli (show (locT a).length ≤ 9223372036854775807 by omega)]
          exact ⟨hli, Nxt.same (by simp) (by simp [boxesBelow, V.unders, V.under]) (by simp [slotsBelow, V.under]) ⟨rfl, rfl⟩⟩
      · simp -dsimp -implicitDefEqProofs only [aw, slots0, V.copy, V.lend, V.lend1, V.cells, V.boxable, over, bldV, boundV, rowsOf, plains, V.plain, Nat.reduceLeDiff, cond_true, cond_false, implies_true, eq_self, ne_eq, reduceIte, reduceCtorEq, Nat.reduceBEq, Nat.reduceLT, Nat.reduceEqDiff, Nat.reduceAdd, Nat.reduceSub, Nat.reduceMul, Int.ofNat_lt, hli, decide_false, wrap_nat hlt (show s.args.length ≤ 9223372036854775807 by omega)]
        exact ⟨hlt, Nxt.drop (σ := [boxT s]) (by simp) (by simp [boxesBelow, V.unders, V.under]) (by simp [slotsBelow, V.under]) ⟨rfl, rfl⟩⟩
    · simp -dsimp -implicitDefEqProofs only [aw, slots0, V.copy, V.lend, V.lend1, V.cells, V.boxable, over, bldV, boundV, rowsOf, plains, V.plain, Nat.reduceLeDiff, cond_true, cond_false, implies_true, eq_self, ne_eq, reduceIte, reduceCtorEq, Nat.reduceBEq, Nat.reduceLT, Nat.reduceEqDiff, Nat.reduceAdd, Nat.reduceSub, Nat.reduceMul, Int.ofNat_lt, hlt, decide_false, dstrs]
      rw [List.take_of_length_le (show s.args.length ≤ j by omega)]
      refine fun_ret (by simpa only [vts_eq] using tsize_fun s hs _) ?_
      have he : decide (((tsz s : Nat) : Int) = ((1 + szs s.args : Nat) : Int)) = true := decide_eq_true (by rw [hsz])
      simp -dsimp -implicitDefEqProofs only [aw, slots0, V.copy, V.lend, V.lend1, V.cells, V.boxable, over, bldV, boundV, rowsOf, plains, V.plain, Nat.reduceLeDiff, cond_true, cond_false, implies_true, eq_self, ne_eq, reduceIte, reduceCtorEq, Nat.reduceBEq, Nat.reduceLT, Nat.reduceEqDiff, Nat.reduceAdd, Nat.reduceSub, Nat.reduceMul, he, dstrs, decide_true]
      refine fun_ret (awake_fun _) ?_
      simp -dsimp -implicitDefEqProofs only [aw, slots0, V.copy, V.lend, V.lend1, V.cells, V.boxable, over, bldV, boundV, rowsOf, plains, V.plain, Nat.reduceLeDiff, cond_true, cond_false, implies_true, eq_self, ne_eq, reduceIte, reduceCtorEq, Nat.reduceBEq, Nat.reduceLT, Nat.reduceEqDiff, Nat.reduceAdd, Nat.reduceSub, Nat.reduceMul]
      exact fin_ret hb rfl rfl rfl ⟨rfl, rfl⟩
  · have hl0 : locT s = [] := by unfold locT; rw [if_neg h0]
    simp -dsimp -implicitDefEqProofs only [aw, slots0, V.copy, V.lend, V.lend1, V.cells, V.boxable, over, bldV, boundV, rowsOf, plains, V.plain, Nat.reduceLeDiff, cond_true, cond_false, implies_true, eq_self, ne_eq, reduceIte, reduceCtorEq, Nat.reduceBEq, Nat.reduceLT, Nat.reduceEqDiff, Nat.reduceAdd, Nat.reduceSub, Nat.reduceMul, vts_eq]
    refine fun_ret (by simpa only [vts_eq] using tlocals_fun s hs _) ?_
    simp -dsimp -implicitDefEqProofs only [aw, slots0, V.copy, V.lend, V.lend1, V.cells, V.boxable, over, bldV, boundV, rowsOf, plains, V.plain, Nat.reduceLeDiff, cond_true, cond_false, implies_true, eq_self, ne_eq, reduceIte, reduceCtorEq, Nat.reduceBEq, Nat.reduceLT, Nat.reduceEqDiff, Nat.reduceAdd, Nat.reduceSub, Nat.reduceMul]
    refine fun_ret (by simpa only [vts_eq] using tvalid_fun s hs _) ?_
    simp -dsimp -implicitDefEqProofs only [aw, slots0, V.copy, V.lend, V.lend1, V.cells, V.boxable, over, bldV, boundV, rowsOf, plains, V.plain, Nat.reduceLeDiff, cond_true, cond_false, implies_true, eq_self, ne_eq, reduceIte, reduceCtorEq, Nat.reduceBEq, Nat.reduceLT, Nat.reduceEqDiff, Nat.reduceAdd, Nat.reduceSub, Nat.reduceMul, decide_eq_false h0]
    refine awp_forK [1, 3, 4, 5, 19, 20, 21] (R := fun (j : Nat) ρ σ' => ρ = [(1, .ptr 0 0), (3, .d (dint ((1 + szs (s.args.take j) : Nat) : Int))), (4, .d (dstrs (locT s))), (5, vbool false), (19, .d (.sl (s.args.map dts))), (20, vint .i64 s.args.length), (21, vint .i64 j)] ∧ σ' = [boxT s]) s.args.length ⟨by simp [szs]; rfl, rfl⟩ ?_ _
    rintro j ρ' σ' hj ⟨rfl, rfl⟩
    by_cases hlt : j < s.args.length
    · have hmem := List.getElem_mem hlt
      have ht := szs_take hlt
      have hle2 := szs_le s.args (j + 1)
      have hba := tbig_arg hmem
      have hla : (locT s.args[j]).length ≤ 1000000 := by have := locT_len s.args[j]; have := tsz_le s.args[j]; omega
      have hw1 : IntKind.i64.wrap (((1 + szs (s.args.take j) : Nat) : Int) + (tsz s.args[j] : Nat)) = ((1 + szs (s.args.take (j + 1)) : Nat) : Int) := by rw [wrap_i64 (by omega) (by omega), ht]; omega
      generalize hgs : s.args[j] = a at *
      simp -dsimp -implicitDefEqProofs only [aw, slots0, V.copy, V.lend, V.lend1, V.cells, V.boxable, over, bldV, boundV, rowsOf, plains, V.plain, Nat.reduceLeDiff, cond_true, cond_false, implies_true, eq_self, ne_eq, reduceIte, reduceCtorEq, Nat.reduceBEq, Nat.reduceLT, Nat.reduceEqDiff, Nat.reduceAdd, Nat.reduceSub, Nat.reduceMul, Int.ofNat_lt, hlt, decide_true, List.getElem?_eq_getElem hlt, hgs, dts_eq a]
      refine fun_ret (by simpa only [vts_eq] using tsize_fun a (by omega) _) ?_
      simp -dsimp -implicitDefEqProofs only [aw, slots0, V.copy, V.lend, V.lend1, V.cells, V.boxable, over, bldV, boundV, rowsOf, plains, V.plain, Nat.reduceLeDiff, cond_true, cond_false, implies_true, eq_self, ne_eq, reduceIte, reduceCtorEq, Nat.reduceBEq, Nat.reduceLT, Nat.reduceEqDiff, Nat.reduceAdd, Nat.reduceSub, Nat.reduceMul, hw1]
      refine fun_ret (by simpa only [vts_eq] using tlocals_fun a (by omega) _) ?_
      simp -dsimp -implicitDefEqProofs only [aw, slots0, V.copy, V.lend, V.lend1, V.cells, V.boxable, over, bldV, boundV, rowsOf, plains, V.plain, Nat.reduceLeDiff, cond_true, cond_false, implies_true, eq_self, ne_eq, reduceIte, reduceCtorEq, Nat.reduceBEq, Nat.reduceLT, Nat.reduceEqDiff, Nat.reduceAdd, Nat.reduceSub, Nat.reduceMul, dstrs]
      refine awp_forK [1, 3, 4, 5, 19, 20, 21, 36, 37, 38] (R := fun (i : Nat) ρ σ' => ρ = [(1, .ptr 0 0), (3, .d (dint ((1 + szs (s.args.take (j + 1)) : Nat) : Int))), (4, .d (.sl ((locT s).map fun s => [dstr s]))), (5, vbool false), (19, .d (.sl (s.args.map dts))), (20, vint .i64 s.args.length), (21, vint .i64 j), (36, .d (.sl ((locT a).map fun s => [dstr s]))), (37, vint .i64 (locT a).length), (38, vint .i64 i)] ∧ σ' = [boxT s, boxT a]) (locT a).length ⟨rfl, rfl⟩ ?_ _
      rintro i ρ' σ' hi ⟨rfl, rfl⟩
      by_cases hli : i < (locT a).length
      · have hin := List.getElem_mem hli
        simp -dsimp -implicitDefEqProofs only [aw, slots0, V.copy, V.lend, V.lend1, V.cells, V.boxable, over, bldV, boundV, rowsOf, plains, V.plain, Nat.reduceLeDiff, cond_true, cond_false, implies_true, eq_self, ne_eq, reduceIte, reduceCtorEq, Nat.reduceBEq, Nat.reduceLT, Nat.reduceEqDiff, Nat.reduceAdd, Nat.reduceSub, Nat.reduceMul, Int.ofNat_lt, hli, decide_true, List.getElem?_eq_getElem hli]
        generalize hnm : (locT a)[i] = nm at *
        refine awp_forK [1, 3, 4, 5, 9, 10, 19, 20, 21, 36, 37, 38, 44, 45, 46] (R := fun (k : Nat) ρ σ' => ρ = [(1, .ptr 0 0), (3, .d (dint ((1 + szs (s.args.take (j + 1)) : Nat) : Int))), (4, .d (.sl ((locT s).map fun s => [dstr s]))), (5, vbool false), (9, .d (dstr nm)), (10, vbool (true || ((locT s).take k).any fun x => decide (x = nm))), (19, .d (.sl (s.args.map dts))), (20, vint .i64 s.args.length), (21, vint .i64 j), (36, .d (.sl ((locT a).map fun s => [dstr s]))), (37, vint .i64 (locT a).length), (38, vint .i64 i), (44, .d (.sl ((locT s).map fun s => [dstr s]))), (45, vint .i64 (locT s).length), (46, vint .i64 k)] ∧ σ' = [boxT s, boxT a]) (locT s).length ⟨rfl, rfl⟩ ?_ _
        rintro k ρ' σ' hk ⟨rfl, rfl⟩
        by_cases hlk : k < (locT s).length
        · have hz : ((locT s).take (k + 1)).any (fun x => decide (x = nm)) = (((locT s).take k).any (fun x => decide (x = nm)) || decide ((locT s)[k] = nm)) := by
            rw [List.take_add_one, List.getElem?_eq_getElem hlk, List.any_append]; simp
          simp -dsimp -implicitDefEqProofs only [aw, slots0, V.copy, V.lend, V.lend1, V.cells, V.boxable, over, bldV, boundV, rowsOf, plains, V.plain, Nat.reduceLeDiff, cond_true, cond_false, implies_true, eq_self, ne_eq, reduceIte, reduceCtorEq, Nat.reduceBEq, Nat.reduceLT, Nat.reduceEqDiff, Nat.reduceAdd, Nat.reduceSub, Nat.reduceMul, Int.ofNat_lt, hlk, decide_true, List.getElem?_eq_getElem hlk, wrap_nat hlk (show (locT s).length ≤ 9223372036854775807 by omega)]
          exact absurd hlk (by rw [hl0]; simp)
        · simp -dsimp -implicitDefEqProofs only [aw, slots0, V.copy, V.lend, V.lend1, V.cells, V.boxable, over, bldV, boundV, rowsOf, plains, V.plain, Nat.reduceLeDiff, cond_true, cond_false, implies_true, eq_self, ne_eq, reduceIte, reduceCtorEq, Nat.reduceBEq, Nat.reduceLT, Nat.reduceEqDiff, Nat.reduceAdd, Nat.reduceSub, Nat.reduceMul, Int.ofNat_lt, hlk, decide_false]
          simp -dsimp -implicitDefEqProofs only [aw, slots0, V.copy, V.lend, V.lend1, V.cells, V.boxable, over, bldV, boundV, rowsOf, plains, V.plain, Nat.reduceLeDiff, cond_true, cond_false, implies_true, eq_self, ne_eq, reduceIte, reduceCtorEq, Nat.reduceBEq, Nat.reduceLT, Nat.reduceEqDiff, Nat.reduceAdd, Nat.reduceSub, Nat.reduceMul, Bool.not_true, wrap_nat hli (show (locT a).length ≤ 9223372036854775807 by omega)]
          exact ⟨hli, Nxt.same (by simp) (by simp [boxesBelow, V.unders, V.under]) (by simp [slotsBelow, V.under]) ⟨rfl, rfl⟩⟩
      · simp -dsimp -implicitDefEqProofs only [aw, slots0, V.copy, V.lend, V.lend1, V.cells, V.boxable, over, bldV, boundV, rowsOf, plains, V.plain, Nat.reduceLeDiff, cond_true, cond_false, implies_true, eq_self, ne_eq, reduceIte, reduceCtorEq, Nat.reduceBEq, Nat.reduceLT, Nat.reduceEqDiff, Nat.reduceAdd, Nat.reduceSub, Nat.reduceMul, Int.ofNat_lt, hli, decide_false, wrap_nat hlt (show s.args.length ≤ 9223372036854775807 by omega)]
        exact ⟨hlt, Nxt.drop (σ := [boxT s]) (by simp) (by simp [boxesBelow, V.unders, V.under]) (by simp [slotsBelow, V.under]) ⟨rfl, rfl⟩⟩
    · simp -dsimp -implicitDefEqProofs only [aw, slots0, V.copy, V.lend, V.lend1, V.cells, V.boxable, over, bldV, boundV, rowsOf, plains, V.plain, Nat.reduceLeDiff, cond_true, cond_false, implies_true, eq_self, ne_eq, reduceIte, reduceCtorEq, Nat.reduceBEq, Nat.reduceLT, Nat.reduceEqDiff, Nat.reduceAdd, Nat.reduceSub, Nat.reduceMul, Int.ofNat_lt, hlt, decide_false, dstrs]
      rw [List.take_of_length_le (show s.args.length ≤ j by omega)]
      refine fun_ret (by simpa only [vts_eq] using tsize_fun s hs _) ?_
      have he : decide (((tsz s : Nat) : Int) = ((1 + szs s.args : Nat) : Int)) = true := decide_eq_true (by rw [hsz])
      simp -dsimp -implicitDefEqProofs only [aw, slots0, V.copy, V.lend, V.lend1, V.cells, V.boxable, over, bldV, boundV, rowsOf, plains, V.plain, Nat.reduceLeDiff, cond_true, cond_false, implies_true, eq_self, ne_eq, reduceIte, reduceCtorEq, Nat.reduceBEq, Nat.reduceLT, Nat.reduceEqDiff, Nat.reduceAdd, Nat.reduceSub, Nat.reduceMul, he, dstrs, hl0, List.length_nil, Int.cast_ofNat_Int, decide_true]
      refine fun_ret (awake_fun _) ?_
      simp -dsimp -implicitDefEqProofs only [aw, slots0, V.copy, V.lend, V.lend1, V.cells, V.boxable, over, bldV, boundV, rowsOf, plains, V.plain, Nat.reduceLeDiff, cond_true, cond_false, implies_true, eq_self, ne_eq, reduceIte, reduceCtorEq, Nat.reduceBEq, Nat.reduceLT, Nat.reduceEqDiff, Nat.reduceAdd, Nat.reduceSub, Nat.reduceMul]
      exact fin_ret hb rfl rfl rfl ⟨rfl, rfl⟩
end Go.Proofs.YtbhippphcmkjnaaDoor
