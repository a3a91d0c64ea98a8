/-
  The reference of sequences: lengths, Min, Max.
-/
import Derived.Test.YtbhippphcmkjnaaGreatDoorTRef3
import Derived.Test.YtbhippphcmkjnaaGreatDoorTMin
set_option linter.unusedVariables false
set_option linter.unusedSimpArgs false
namespace Go.Proofs.YtbhippphcmkjnaaGreatDoor
open Go.RowKit

theorem foldl_max_init (l : List Int) (a b : Int) : l.foldl max (max a b) = max a (l.foldl max b) := by
  induction l generalizing b with
  | nil => rfl
  | cons x r ih => simp only [List.foldl_cons]; rw [show max (max a b) x = max a (max b x) by omega, ih]
theorem take_fold {l : List Int} {x : Int} {r : List Int} (h : l = x :: r) (f : Int → Int → Int) {j : Nat} (h0 : 1 ≤ j) (hj : j < l.length) : (r.take j).foldl f x = f ((r.take (j - 1)).foldl f x) (l[j]) := by
  subst h
  obtain ⟨k, rfl⟩ : ∃ k, j = k + 1 := ⟨j - 1, by omega⟩
  have hk : k < r.length := by simpa using hj
  rw [List.take_add_one, List.getElem?_eq_getElem hk, List.foldl_append]
  simp
set_option maxHeartbeats 1000000 in
theorem lengths_fun (s : Ts) : GoodT s → ∀ σ, Fun G 40 [vts s] σ (RetV (.tup [.d (dint (lenT false s)), .d (dint (lenT true s))]) σ) := by
  induction s using Ts.ind with
  | h s ih =>
  intro hg σ
  obtain ⟨f1, f2, f3, f4, f5, f6, f7, f8⟩ := shape_facts hg.shape
  have hln := tbig_len s
  have hbg := hg.2.2
  have q0 := lenT_eq false s
  have q1 := lenT_eq true s
  simp only [Bool.false_eq_true, if_false, if_true] at q0 q1
  have hsm := fun a (ha : a ∈ s.args) mx => len_small (hg.arg ha) mx
  have hsm0 := fun mx => len_small hg mx
  refine fun_code Tryz.func40 k40 (by simp only [vts_eq]; rfl) fun hb hw => ?_
  unfold c40
  have out : ∀ (a b : Int) (l : List (List V)), lenT false s = a → lenT true s = b → fin σ.length rs40 (RetV (.tup [.d (dint (lenT false s)), .d (dint (lenT true s))]) σ) .ret [(2, .d (.lit (.int .i64 a))), (3, .d (.lit (.int .i64 b)))] (σ ++ l) := fun a b l h1 h2 => by
    rw [h1, h2]; exact fin_ret (v := .tup [.d (dint a), .d (dint b)]) hb rfl rfl List.take_left ⟨rfl, rfl⟩
  by_cases o1 : s.op = 1
  · simp -dsimp -implicitDefEqProofs only [aw, slots0, V.copy, V.lend, V.lend1, V.cells, V.boxable, over, bldV, boundV, rowsOf, plains, V.plain, Nat.reduceLeDiff, cond_true, cond_false, implies_true, eq_self, ne_eq, reduceIte, reduceCtorEq, Nat.reduceBEq, Nat.reduceLT, Nat.reduceEqDiff, Nat.reduceAdd, Nat.reduceSub, Nat.reduceMul, vts_eq, decide_eq_true o1]
    exact out 1 1 _ (by rw [q0]; unfold lenF; simp [o1]) (by rw [q1]; unfold lenF; simp [o1])
  have hne : s.args ≠ [] := fun e => by
    have hl : s.args.length = 0 := by rw [e]; rfl
    rcases (show s.op = 2 ∨ s.op = 3 ∨ (s.op = 4 ∨ s.op = 5) ∨ (s.op = 6 ∨ s.op = 7) by omega) with h | h | h | h
    · have := (f2 h).1; omega
    · have := (f3 h).1; omega
    · have := (f4 h).1; omega
    · have := f5 h; omega
  obtain ⟨x, r, hxr⟩ := List.exists_cons_of_ne_nil hne
  have hx : x ∈ s.args := by rw [hxr]; simp
  have hidx : iaV 9 (.d (.sl (s.args.map dts))) (V.d (D.lit (Value.int IntKind.i64 0))) = some (.row (dts x) 0) := by rw [hxr]; simp [iaV, rowsV, dts_len]
  rw [hxr] at q0 q1
  simp only [List.map_cons] at q0 q1
  simp -dsimp -implicitDefEqProofs only [aw, slots0, V.copy, V.lend, V.lend1, V.cells, V.boxable, over, bldV, boundV, rowsOf, plains, V.plain, Nat.reduceLeDiff, cond_true, cond_false, implies_true, eq_self, ne_eq, reduceIte, reduceCtorEq, Nat.reduceBEq, Nat.reduceLT, Nat.reduceEqDiff, Nat.reduceAdd, Nat.reduceSub, Nat.reduceMul, vts_eq, decide_eq_false o1, hidx, dts_eq x]
  refine fun_ret (by simpa only [vts_eq] using ih x hx (hg.arg hx) _) ?_
  by_cases o2 : s.op = 2
  · obtain ⟨g1, g2, g3, g4⟩ := f2 o2
    rw [hxr] at g1
    match hr : r, g1 with
    | [y], _ =>
    subst hr
    have hy : y ∈ s.args := by rw [hxr]; simp
    have hidy : iaV 9 (.d (.sl (s.args.map dts))) (V.d (D.lit (Value.int IntKind.i64 1))) = some (.row (dts y) 0) := by rw [hxr]; simp [iaV, rowsV, dts_len]
    have x0 := hsm x hx false
    have x1 := hsm x hx true
    have y0 := hsm y hy false
    have y1 := hsm y hy true
    unfold lenF at q0 q1
    simp only [if_pos o2, List.map_cons, List.map_nil, List.getD_cons_zero, List.getD_cons_succ] at q0 q1
    have w1 : IntKind.i64.wrap (lenT false x + s.lo) = lenT false x + s.lo := wrap_i64 (by omega) (by omega)
    have w2 : IntKind.i64.wrap (lenT false x + s.lo + lenT false y) = lenT false x + s.lo + lenT false y := wrap_i64 (by omega) (by omega)
    have w3 : IntKind.i64.wrap (lenT false x + s.lo + lenT false y - 1) = lenT false x + s.lo + lenT false y - 1 := wrap_i64 (by omega) (by omega)
    have w4 : IntKind.i64.wrap (lenT true x + s.hi) = lenT true x + s.hi := wrap_i64 (by omega) (by omega)
    have w5 : IntKind.i64.wrap (lenT true x + s.hi + lenT true y) = lenT true x + s.hi + lenT true y := wrap_i64 (by omega) (by omega)
    have w6 : IntKind.i64.wrap (lenT true x + s.hi + lenT true y - 1) = lenT true x + s.hi + lenT true y - 1 := wrap_i64 (by omega) (by omega)
    simp -dsimp -implicitDefEqProofs only [aw, slots0, V.copy, V.lend, V.lend1, V.cells, V.boxable, over, bldV, boundV, rowsOf, plains, V.plain, Nat.reduceLeDiff, cond_true, cond_false, implies_true, eq_self, ne_eq, reduceIte, reduceCtorEq, Nat.reduceBEq, Nat.reduceLT, Nat.reduceEqDiff, Nat.reduceAdd, Nat.reduceSub, Nat.reduceMul, decide_eq_true o2, hidy, dts_eq y]
    refine fun_ret (by simpa only [vts_eq] using ih y hy (hg.arg hy) _) ?_
    simp -dsimp -implicitDefEqProofs only [aw, slots0, V.copy, V.lend, V.lend1, V.cells, V.boxable, over, bldV, boundV, rowsOf, plains, V.plain, Nat.reduceLeDiff, cond_true, cond_false, implies_true, eq_self, ne_eq, reduceIte, reduceCtorEq, Nat.reduceBEq, Nat.reduceLT, Nat.reduceEqDiff, Nat.reduceAdd, Nat.reduceSub, Nat.reduceMul, w1, w2, w3, w4, w5, w6]
    exact out _ _ _ (by rw [q0]; omega) (by rw [q1]; omega)
  by_cases o3 : s.op = 3
  · obtain ⟨g1, g2, g3, g4⟩ := f3 o3
    have x0 := hsm x hx false
    have x1 := hsm x hx true
    unfold lenF at q0 q1
    simp only [if_neg o2, if_pos o3, List.getD_cons_zero] at q0 q1
    have b0 := hsm0 false
    have b1 := hsm0 true
    have w1 : IntKind.i64.wrap (lenT false x * s.lo) = lenT false x * s.lo := by rw [← q0]; exact wrap_i64 (by omega) (by omega)
    have w2 : IntKind.i64.wrap (lenT true x * s.hi) = lenT true x * s.hi := by rw [← q1]; exact wrap_i64 (by omega) (by omega)
    simp -dsimp -implicitDefEqProofs only [aw, slots0, V.copy, V.lend, V.lend1, V.cells, V.boxable, over, bldV, boundV, rowsOf, plains, V.plain, Nat.reduceLeDiff, cond_true, cond_false, implies_true, eq_self, ne_eq, reduceIte, reduceCtorEq, Nat.reduceBEq, Nat.reduceLT, Nat.reduceEqDiff, Nat.reduceAdd, Nat.reduceSub, Nat.reduceMul, decide_eq_false o2, decide_eq_true o3, w1, w2]
    exact out _ _ _ q0 q1
  simp -dsimp -implicitDefEqProofs only [aw, slots0, V.copy, V.lend, V.lend1, V.cells, V.boxable, over, bldV, boundV, rowsOf, plains, V.plain, Nat.reduceLeDiff, cond_true, cond_false, implies_true, eq_self, ne_eq, reduceIte, reduceCtorEq, Nat.reduceBEq, Nat.reduceLT, Nat.reduceEqDiff, Nat.reduceAdd, Nat.reduceSub, Nat.reduceMul, decide_eq_false o2, decide_eq_false o3]
  refine awp_forK [1, 4, 5, 8] (R := fun (j : Nat) ρ σ' => ρ = [(1, .ptr σ.length 0), (4, .d (dint ((((r.take j).map (lenT false)).foldl (fun a b => if s.op = 4 then min a b else max a b) (lenT false x))))), (5, .d (dint (((r.take j).map (lenT true)).foldl max (lenT true x)))), (8, vint .i64 ((j + 1 : Nat) : Int))] ∧ σ' = σ ++ [boxT s]) r.length ⟨rfl, rfl⟩ ?_ _
  rintro j ρ' σ' hj ⟨rfl, rfl⟩
  have hal : s.args.length = r.length + 1 := by rw [hxr]; rfl
  by_cases hlt : j < r.length
  · have hlt' : j + 1 < s.args.length := by omega
    have hgy : s.args[j + 1] = r[j] := by simp [hxr]
    have hy : r[j] ∈ s.args := by rw [hxr]; exact List.mem_cons_of_mem _ (List.getElem_mem hlt)
    have t0 : ((r.take (j + 1)).map (lenT false)).foldl (fun a b => if s.op = 4 then min a b else max a b) (lenT false x) = (if s.op = 4 then min ((((r.take j).map (lenT false)).foldl (fun a b => if s.op = 4 then min a b else max a b) (lenT false x))) (lenT false r[j]) else max ((((r.take j).map (lenT false)).foldl (fun a b => if s.op = 4 then min a b else max a b) (lenT false x))) (lenT false r[j])) := by
      rw [List.take_add_one, List.getElem?_eq_getElem hlt, List.map_append, List.foldl_append]; rfl
    have t1 : ((r.take (j + 1)).map (lenT true)).foldl max (lenT true x) = max (((r.take j).map (lenT true)).foldl max (lenT true x)) (lenT true r[j]) := by
      rw [List.take_add_one, List.getElem?_eq_getElem hlt, List.map_append, List.foldl_append]; rfl
    simp -dsimp -implicitDefEqProofs only [aw, slots0, V.copy, V.lend, V.lend1, V.cells, V.boxable, over, bldV, boundV, rowsOf, plains, V.plain, Nat.reduceLeDiff, cond_true, cond_false, implies_true, eq_self, ne_eq, reduceIte, reduceCtorEq, Nat.reduceBEq, Nat.reduceLT, Nat.reduceEqDiff, Nat.reduceAdd, Nat.reduceSub, Nat.reduceMul, Int.ofNat_lt, hlt', decide_true, List.getElem?_eq_getElem hlt', hgy, dts_eq r[j]]
    refine fun_ret (by simpa only [vts_eq] using ih r[j] hy (hg.arg hy) _) ?_
    by_cases o4 : s.op = 4
    · rw [if_pos o4] at t0
      simp -dsimp -implicitDefEqProofs only [aw, slots0, V.copy, V.lend, V.lend1, V.cells, V.boxable, over, bldV, boundV, rowsOf, plains, V.plain, Nat.reduceLeDiff, cond_true, cond_false, implies_true, eq_self, ne_eq, reduceIte, reduceCtorEq, Nat.reduceBEq, Nat.reduceLT, Nat.reduceEqDiff, Nat.reduceAdd, Nat.reduceSub, Nat.reduceMul, decide_eq_true o4, if_true, if_false, Bool.false_eq_true, ← t1, wrap_nat hlt' (show s.args.length ≤ 9223372036854775807 by omega)]
      refine ⟨hlt, Nxt.same (by simp) (boxesBelow_app hb rfl) (by simp [slotsBelow, V.under]) ⟨?_, rfl⟩⟩
      rw [t0]
    · rw [if_neg o4] at t0
      simp -dsimp -implicitDefEqProofs only [aw, slots0, V.copy, V.lend, V.lend1, V.cells, V.boxable, over, bldV, boundV, rowsOf, plains, V.plain, Nat.reduceLeDiff, cond_true, cond_false, implies_true, eq_self, ne_eq, reduceIte, reduceCtorEq, Nat.reduceBEq, Nat.reduceLT, Nat.reduceEqDiff, Nat.reduceAdd, Nat.reduceSub, Nat.reduceMul, decide_eq_false o4, if_true, if_false, Bool.false_eq_true, ← t1, wrap_nat hlt' (show s.args.length ≤ 9223372036854775807 by omega)]
      refine ⟨hlt, Nxt.same (by simp) (boxesBelow_app hb rfl) (by simp [slotsBelow, V.under]) ⟨?_, rfl⟩⟩
      rw [t0]
  · have hlt' : ¬ j + 1 < s.args.length := by omega
    simp -dsimp -implicitDefEqProofs only [aw, slots0, V.copy, V.lend, V.lend1, V.cells, V.boxable, over, bldV, boundV, rowsOf, plains, V.plain, Nat.reduceLeDiff, cond_true, cond_false, implies_true, eq_self, ne_eq, reduceIte, reduceCtorEq, Nat.reduceBEq, Nat.reduceLT, Nat.reduceEqDiff, Nat.reduceAdd, Nat.reduceSub, Nat.reduceMul, Int.ofNat_lt, hlt', decide_false]
    rw [List.take_of_length_le (show r.length ≤ j by omega)]
    unfold lenF at q0 q1
    simp only [if_neg o2, if_neg o3, Bool.false_eq_true, if_false, if_true] at q0 q1
    by_cases o4 : s.op = 4
    · rw [if_pos o4] at q0 q1
      exact out _ _ _ (by rw [q0]; simp only [if_pos o4]; rfl) (by rw [q1]; rfl)
    rw [if_neg o4] at q0 q1
    by_cases o5 : s.op = 5
    · rw [if_pos o5] at q0 q1
      exact out _ _ _ (by rw [q0]; simp only [if_neg o4]; rfl) (by rw [q1]; rfl)
    rw [if_neg o5] at q0 q1
    have o67 : s.op = 6 ∨ s.op = 7 := by omega
    rw [if_pos o67] at q0 q1
    have hr0 : r = [] := List.eq_nil_of_length_eq_zero (by have := f5 o67; omega)
    subst hr0
    exact out _ _ _ (by rw [q0]; rfl) (by rw [q1]; rfl)
theorem rtmin_fun (s : Ts) (hs : tbig s ≤ 1000000) (σ : List (List V)) : Fun G 17 [vts s] σ (RetV (.d (dint (minT s))) σ) := by
  refine fun_code Tryz.func17 k17 (by simp only [vts_eq]; rfl) fun hb hw => ?_
  unfold c17
  have hq : minT s = minT s := rfl
  conv at hq => rhs; unfold minT
  simp -dsimp -implicitDefEqProofs only [aw, slots0, V.copy, V.lend, V.lend1, V.cells, V.boxable, over, bldV, boundV, rowsOf, plains, V.plain, Nat.reduceLeDiff, cond_true, cond_false, implies_true, eq_self, ne_eq, reduceIte, reduceCtorEq, Nat.reduceBEq, Nat.reduceLT, Nat.reduceEqDiff, Nat.reduceAdd, Nat.reduceSub, Nat.reduceMul, vts_eq]
  refine fun_ret (by simpa only [vts_eq] using rvalid39_fun s hs _) ?_
  by_cases h0 : validT s = 0
  · rw [if_pos h0] at hq
    simp -dsimp -implicitDefEqProofs only [aw, slots0, V.copy, V.lend, V.lend1, V.cells, V.boxable, over, bldV, boundV, rowsOf, plains, V.plain, Nat.reduceLeDiff, cond_true, cond_false, implies_true, eq_self, ne_eq, reduceIte, reduceCtorEq, Nat.reduceBEq, Nat.reduceLT, Nat.reduceEqDiff, Nat.reduceAdd, Nat.reduceSub, Nat.reduceMul, h0, Int.reduceEq, decide_true, decide_false]
    refine fun_ret (by simpa only [vts_eq] using lengths_fun s (GoodT.of h0 hs) _) ?_
    simp -dsimp -implicitDefEqProofs only [aw, slots0, V.copy, V.lend, V.lend1, V.cells, V.boxable, over, bldV, boundV, rowsOf, plains, V.plain, Nat.reduceLeDiff, cond_true, cond_false, implies_true, eq_self, ne_eq, reduceIte, reduceCtorEq, Nat.reduceBEq, Nat.reduceLT, Nat.reduceEqDiff, Nat.reduceAdd, Nat.reduceSub, Nat.reduceMul]
    exact fin_ret hb rfl rfl List.take_left ⟨by rw [hq]; rfl, rfl⟩
  · rw [if_neg h0] at hq
    simp -dsimp -implicitDefEqProofs only [aw, slots0, V.copy, V.lend, V.lend1, V.cells, V.boxable, over, bldV, boundV, rowsOf, plains, V.plain, Nat.reduceLeDiff, cond_true, cond_false, implies_true, eq_self, ne_eq, reduceIte, reduceCtorEq, Nat.reduceBEq, Nat.reduceLT, Nat.reduceEqDiff, Nat.reduceAdd, Nat.reduceSub, Nat.reduceMul, decide_eq_false h0]
    exact fin_ret hb rfl rfl List.take_left ⟨by rw [hq]; rfl, rfl⟩
theorem rtmax_fun (s : Ts) (hs : tbig s ≤ 1000000) (σ : List (List V)) : Fun G 19 [vts s] σ (RetV (.d (dint (maxT s))) σ) := by
  refine fun_code Tryz.func19 k19 (by simp only [vts_eq]; rfl) fun hb hw => ?_
  unfold c19
  have hq : maxT s = maxT s := rfl
  conv at hq => rhs; unfold maxT
  simp -dsimp -implicitDefEqProofs only [aw, slots0, V.copy, V.lend, V.lend1, V.cells, V.boxable, over, bldV, boundV, rowsOf, plains, V.plain, Nat.reduceLeDiff, cond_true, cond_false, implies_true, eq_self, ne_eq, reduceIte, reduceCtorEq, Nat.reduceBEq, Nat.reduceLT, Nat.reduceEqDiff, Nat.reduceAdd, Nat.reduceSub, Nat.reduceMul, vts_eq]
  refine fun_ret (by simpa only [vts_eq] using rvalid39_fun s hs _) ?_
  by_cases h0 : validT s = 0
  · rw [if_pos h0] at hq
    simp -dsimp -implicitDefEqProofs only [aw, slots0, V.copy, V.lend, V.lend1, V.cells, V.boxable, over, bldV, boundV, rowsOf, plains, V.plain, Nat.reduceLeDiff, cond_true, cond_false, implies_true, eq_self, ne_eq, reduceIte, reduceCtorEq, Nat.reduceBEq, Nat.reduceLT, Nat.reduceEqDiff, Nat.reduceAdd, Nat.reduceSub, Nat.reduceMul, h0, Int.reduceEq, decide_true, decide_false]
    refine fun_ret (by simpa only [vts_eq] using lengths_fun s (GoodT.of h0 hs) _) ?_
    simp -dsimp -implicitDefEqProofs only [aw, slots0, V.copy, V.lend, V.lend1, V.cells, V.boxable, over, bldV, boundV, rowsOf, plains, V.plain, Nat.reduceLeDiff, cond_true, cond_false, implies_true, eq_self, ne_eq, reduceIte, reduceCtorEq, Nat.reduceBEq, Nat.reduceLT, Nat.reduceEqDiff, Nat.reduceAdd, Nat.reduceSub, Nat.reduceMul]
    exact fin_ret hb rfl rfl List.take_left ⟨by rw [hq]; rfl, rfl⟩
  · rw [if_neg h0] at hq
    simp -dsimp -implicitDefEqProofs only [aw, slots0, V.copy, V.lend, V.lend1, V.cells, V.boxable, over, bldV, boundV, rowsOf, plains, V.plain, Nat.reduceLeDiff, cond_true, cond_false, implies_true, eq_self, ne_eq, reduceIte, reduceCtorEq, Nat.reduceBEq, Nat.reduceLT, Nat.reduceEqDiff, Nat.reduceAdd, Nat.reduceSub, Nat.reduceMul, decide_eq_false h0]
    exact fin_ret hb rfl rfl List.take_left ⟨by rw [hq]; rfl, rfl⟩
end Go.Proofs.YtbhippphcmkjnaaGreatDoor
