/-
  The law's awake, cycle.
-/
import Derived.Test.YtbhippphcmkjnaaGreatDoorTLocW
import Derived.Test.YtbhippphcmkjnaaGreatDoorTMin
set_option linter.unusedVariables false
set_option linter.unusedSimpArgs false
namespace Go.Proofs.YtbhippphcmkjnaaGreatDoor
open Go.RowKit

abbrev zE : Ex := .mk 0 0 ⟨#[]⟩ []
def cyc (n : ByteArray) : Ts := .mk 1 0 0 (.mk 2 0 n []) ⟨#[]⟩ []
theorem cycle_fun (n : ByteArray) (σ : List (List V)) : Fun G 27 [.d (dstr n)] σ (RetV (vts (cyc n)) σ) := by
  refine fun_code Tryz.func27 k27 rfl fun hb hw => ?_
  unfold c27
  simp -dsimp -implicitDefEqProofs only [aw, slots0, V.copy, V.lend, V.lend1, V.cells, V.boxable, over, bldV, boundV, rowsOf, plains, V.plain, Nat.reduceLeDiff, cond_true, cond_false, implies_true, eq_self, ne_eq, reduceIte, reduceCtorEq, Nat.reduceBEq, Nat.reduceLT, Nat.reduceEqDiff, Nat.reduceAdd, Nat.reduceSub, Nat.reduceMul]
  exact fin_ret (v := vts (cyc n)) hb (by rw [vts_eq]; simp [rs27, resV, res1, cyc, Ts.op, Ts.lo, Ts.hi, Ts.ex, Ts.name, Ts.args, Ex.op, Ex.num, Ex.name, Ex.args, aw, slots0, V.copy, V.lend, V.lend1, V.cells, V.boxable, over, bldV, boundV, rowsOf, plains, V.plain, Nat.reduceLeDiff, cond_true, cond_false, implies_true, eq_self, ne_eq, reduceIte, reduceCtorEq, Nat.reduceBEq, Nat.reduceLT, Nat.reduceEqDiff, Nat.reduceAdd, Nat.reduceSub, Nat.reduceMul]) (by rw [vts_eq]; rfl) List.take_left ⟨rfl, rfl⟩
theorem vcyc (n : ByteArray) : vts (cyc n) = .agg [.d (dint 1), .d (dint 0), .d (dint 0), .d (dint 2), .d (dint 0), .d (dstr n), .d (.sl []), .d (dstr ⟨#[]⟩), .d (.sl [])] := by
  rw [vts_eq]; rfl
def awA : Ts := cyc ⟨#[97]⟩
def awB : Ts := cyc ⟨#[98]⟩
def awD : Ts := .mk 2 1 3 zE ⟨#[]⟩ [awA, awB]
def awN : Ts := .mk 3 0 2 zE ⟨#[]⟩ [awA]
def awS : Ts := .mk 6 0 0 (.mk 1 1 ⟨#[]⟩ []) ⟨#[120]⟩ [awA]
def awO : Ts := .mk 5 0 0 zE ⟨#[]⟩ [awS, awB]
def awH : Ts := .mk 7 0 0 (.mk 2 0 ⟨#[120]⟩ []) ⟨#[]⟩ [awS]
theorem aw_vd : validT awD = 0 := by decide +kernel
theorem aw_vn : validT awN = 1 := by decide +kernel
theorem aw_vo : validT awO = 13 := by decide +kernel
theorem aw_vh : validT awH = 13 := by decide +kernel
theorem aw_vs : validT awS = 0 := by decide +kernel
theorem aw_min : minT awD = 2 := by decide +kernel
theorem aw_max : maxT awD = 4 := by decide +kernel
theorem aw_sz : (tsz awD : Int) = 3 := by decide +kernel
theorem aw_loc : (locT awS).length = 1 := by
  unfold locT
  rw [if_pos aw_vs]
  have h1 := srt_len (tnm awS)
  have h2 : tnm awS = [⟨#[120]⟩] := by decide +kernel
  have h3 : (⟨#[120]⟩ : ByteArray) ∈ srtS (tnm awS) := by rw [srt_mem, h2]; simp
  have h4 := List.length_pos_of_mem h3
  rw [h2] at h1 h4 ⊢
  simp only [List.length_cons, List.length_nil] at h1
  omega
theorem aw_big : tbig awD ≤ 1000000 ∧ tbig awN ≤ 1000000 ∧ tbig awO ≤ 1000000 ∧ tbig awH ≤ 1000000 ∧ tbig awS ≤ 1000000 := by decide +kernel
theorem awake_fun (σ : List (List V)) : Fun G 10 [] σ (RetV (.d (.lit (.bool true))) σ) := by
  obtain ⟨b1, b2, b3, b4, b5⟩ := aw_big
  have hvd := fun σ => tvalid_fun awD b1 σ
  have hvn := fun σ => tvalid_fun awN b2 σ
  have hvo := fun σ => tvalid_fun awO b3 σ
  have hvh := fun σ => tvalid_fun awH b4 σ
  have hmn := fun σ => tmin_fun awD b1 σ
  have hmx := fun σ => tmax_fun awD b1 σ
  have hsz := fun σ => tsize_fun awD b1 σ
  have hlo := fun σ => tlocals_fun awS b5 σ
  rw [aw_vd] at hvd
  rw [aw_vn] at hvn
  rw [aw_vo] at hvo
  rw [aw_vh] at hvh
  rw [aw_min] at hmn
  rw [aw_max] at hmx
  rw [aw_sz] at hsz
  have hll := aw_loc
  generalize locT awS = L at hlo hll
  have hll2 : ((L.length : Nat) : Int) = 1 := by rw [hll]; rfl
  have e1 : iaV 9 (.d (.sl [dts awA, dts awB])) (V.d (D.lit (Value.int IntKind.i64 1))) = some (.row (dts awB) 0) := rfl
  refine fun_code Tryz.func10 k10 rfl fun hb hw => ?_
  unfold c10
  simp -dsimp -implicitDefEqProofs only [aw, slots0, V.copy, V.lend, V.lend1, V.cells, V.boxable, over, bldV, boundV, rowsOf, plains, V.plain, Nat.reduceLeDiff, cond_true, cond_false, implies_true, eq_self, ne_eq, reduceIte, reduceCtorEq, Nat.reduceBEq, Nat.reduceLT, Nat.reduceEqDiff, Nat.reduceAdd, Nat.reduceSub, Nat.reduceMul]
  refine fun_ret (cycle_fun ⟨#[97]⟩ _) ?_
  simp -dsimp -implicitDefEqProofs only [aw, slots0, V.copy, V.lend, V.lend1, V.cells, V.boxable, over, bldV, boundV, rowsOf, plains, V.plain, Nat.reduceLeDiff, cond_true, cond_false, implies_true, eq_self, ne_eq, reduceIte, reduceCtorEq, Nat.reduceBEq, Nat.reduceLT, Nat.reduceEqDiff, Nat.reduceAdd, Nat.reduceSub, Nat.reduceMul]
  refine fun_ret (cycle_fun ⟨#[98]⟩ _) ?_
  have e1 : ∀ (x y : List D), y.length = 9 → iaV 9 (.d (.sl [x, y])) (V.d (D.lit (Value.int IntKind.i64 1))) = some (.row y 0) := fun x y h => by simp [iaV, rowsV, h]
  have e2 : ∀ (x y : List D), x.length = 9 → y.length = 9 → subV false 9 (.d (.sl [x, y])) none (some (V.d (D.lit (Value.int IntKind.i64 1)))) = some (.d (.sl [x])) := fun x y hx hy => by
    have b1 : boundV (some (V.d (D.lit (Value.int IntKind.i64 1)))) 2 = some 1 := rfl
    have b0 : ∀ n, boundV none n = some n := fun n => rfl
    simp [subV, rowsV, b0, b1, hx, hy]
  simp -dsimp -implicitDefEqProofs only [aw, slots0, V.copy, V.lend, V.lend1, V.cells, V.boxable, over, bldV, boundV, rowsOf, plains, V.plain, Nat.reduceLeDiff, cond_true, cond_false, implies_true, eq_self, ne_eq, reduceIte, reduceCtorEq, Nat.reduceBEq, Nat.reduceLT, Nat.reduceEqDiff, Nat.reduceAdd, Nat.reduceSub, Nat.reduceMul, vcyc, e1, e2, List.length_cons, List.length_nil]
  refine fun_ret (hvd _) ?_
  simp -dsimp -implicitDefEqProofs only [aw, slots0, V.copy, V.lend, V.lend1, V.cells, V.boxable, over, bldV, boundV, rowsOf, plains, V.plain, Nat.reduceLeDiff, cond_true, cond_false, implies_true, eq_self, ne_eq, reduceIte, reduceCtorEq, Nat.reduceBEq, Nat.reduceLT, Nat.reduceEqDiff, Nat.reduceAdd, Nat.reduceSub, Nat.reduceMul, decide_true]
  refine fun_ret (hmn _) ?_
  simp -dsimp -implicitDefEqProofs only [aw, slots0, V.copy, V.lend, V.lend1, V.cells, V.boxable, over, bldV, boundV, rowsOf, plains, V.plain, Nat.reduceLeDiff, cond_true, cond_false, implies_true, eq_self, ne_eq, reduceIte, reduceCtorEq, Nat.reduceBEq, Nat.reduceLT, Nat.reduceEqDiff, Nat.reduceAdd, Nat.reduceSub, Nat.reduceMul, decide_true]
  refine fun_ret (hmx _) ?_
  simp -dsimp -implicitDefEqProofs only [aw, slots0, V.copy, V.lend, V.lend1, V.cells, V.boxable, over, bldV, boundV, rowsOf, plains, V.plain, Nat.reduceLeDiff, cond_true, cond_false, implies_true, eq_self, ne_eq, reduceIte, reduceCtorEq, Nat.reduceBEq, Nat.reduceLT, Nat.reduceEqDiff, Nat.reduceAdd, Nat.reduceSub, Nat.reduceMul, decide_true]
  refine fun_ret (hsz _) ?_
  simp -dsimp -implicitDefEqProofs only [aw, slots0, V.copy, V.lend, V.lend1, V.cells, V.boxable, over, bldV, boundV, rowsOf, plains, V.plain, Nat.reduceLeDiff, cond_true, cond_false, implies_true, eq_self, ne_eq, reduceIte, reduceCtorEq, Nat.reduceBEq, Nat.reduceLT, Nat.reduceEqDiff, Nat.reduceAdd, Nat.reduceSub, Nat.reduceMul, decide_true]
  refine fun_ret (hvn _) ?_
  simp -dsimp -implicitDefEqProofs only [aw, slots0, V.copy, V.lend, V.lend1, V.cells, V.boxable, over, bldV, boundV, rowsOf, plains, V.plain, Nat.reduceLeDiff, cond_true, cond_false, implies_true, eq_self, ne_eq, reduceIte, reduceCtorEq, Nat.reduceBEq, Nat.reduceLT, Nat.reduceEqDiff, Nat.reduceAdd, Nat.reduceSub, Nat.reduceMul, decide_true]
  refine fun_ret (hvo _) ?_
  simp -dsimp -implicitDefEqProofs only [aw, slots0, V.copy, V.lend, V.lend1, V.cells, V.boxable, over, bldV, boundV, rowsOf, plains, V.plain, Nat.reduceLeDiff, cond_true, cond_false, implies_true, eq_self, ne_eq, reduceIte, reduceCtorEq, Nat.reduceBEq, Nat.reduceLT, Nat.reduceEqDiff, Nat.reduceAdd, Nat.reduceSub, Nat.reduceMul, decide_true]
  refine fun_ret (hvh _) ?_
  simp -dsimp -implicitDefEqProofs only [aw, slots0, V.copy, V.lend, V.lend1, V.cells, V.boxable, over, bldV, boundV, rowsOf, plains, V.plain, Nat.reduceLeDiff, cond_true, cond_false, implies_true, eq_self, ne_eq, reduceIte, reduceCtorEq, Nat.reduceBEq, Nat.reduceLT, Nat.reduceEqDiff, Nat.reduceAdd, Nat.reduceSub, Nat.reduceMul, decide_true]
  refine fun_ret (hlo _) ?_
  simp -dsimp -implicitDefEqProofs only [aw, slots0, V.copy, V.lend, V.lend1, V.cells, V.boxable, over, bldV, boundV, rowsOf, plains, V.plain, Nat.reduceLeDiff, cond_true, cond_false, implies_true, eq_self, ne_eq, reduceIte, reduceCtorEq, Nat.reduceBEq, Nat.reduceLT, Nat.reduceEqDiff, Nat.reduceAdd, Nat.reduceSub, Nat.reduceMul, dstrs, hll2, decide_true]
  first | exact fin_ret hb rfl rfl List.take_length ⟨rfl, rfl⟩ | exact fin_ret hb rfl rfl List.take_left ⟨rfl, rfl⟩ | (trace_state; fail "fin")
end Go.Proofs.YtbhippphcmkjnaaGreatDoor
