/-
  Numbers: sum, slices.Max, slices.Min; Size and depth of a sequence.
-/
import Derived.Test.YtbhippphcmkjnaaGreatDoorTFold
set_option linter.unusedVariables false
set_option linter.unusedSimpArgs false
namespace Go.Proofs.YtbhippphcmkjnaaGreatDoor
open Go.RowKit

abbrev dints (l : List Int) : List (List D) := l.map fun n => [dint n]
theorem sum_fun (l : List Nat) (hl : l.sum ≤ 1000000) (hn : l.length ≤ 1000000) (σ : List (List V)) : Fun G 30 [.d (.sl (dints (l.map fun n : Nat => (n : Int))))] σ (RetV (.d (dint (l.sum : Nat))) σ) := by
  refine fun_code Tryz.func30 k30 rfl fun hb hw => ?_
  unfold c30
  simp -dsimp -implicitDefEqProofs only [aw, slots0, V.copy, V.lend, V.lend1, V.cells, V.boxable, over, bldV, boundV, rowsOf, plains, V.plain, Nat.reduceLeDiff, cond_true, cond_false, implies_true, eq_self, ne_eq, reduceIte, reduceCtorEq, Nat.reduceBEq, Nat.reduceLT, Nat.reduceEqDiff, Nat.reduceAdd, Nat.reduceSub, Nat.reduceMul]
  refine awp_forK [3, 6, 7, 8] (R := fun (j : Nat) ρ σ' => ρ = [(3, vint .i64 ((l.take j).sum : Nat)), (6, .d (.sl (dints (l.map fun n : Nat => (n : Int))))), (7, vint .i64 l.length), (8, vint .i64 j)] ∧ σ' = σ) l.length ⟨rfl, rfl⟩ ?_ _
  rintro j ρ' σ' hj ⟨rfl, rfl⟩
  by_cases hlt : j < l.length
  · have ht : (l.take (j + 1)).sum = (l.take j).sum + l[j] := by rw [List.take_add_one, List.getElem?_eq_getElem hlt, List.sum_append]; show _ + (l[j] + 0) = _; omega
    have hle : (l.take (j + 1)).sum ≤ l.sum := by
      conv => rhs; rw [← List.take_append_drop (j + 1) l]
      rw [List.sum_append]; omega
    have hw1 : IntKind.i64.wrap (((l.take j).sum : Nat) + (l[j] : Int)) = ((l.take (j + 1)).sum : Nat) := by rw [wrap_i64 (by omega) (by omega), ht]; omega
    simp -dsimp -implicitDefEqProofs only [aw, slots0, V.copy, V.lend, V.lend1, V.cells, V.boxable, over, bldV, boundV, rowsOf, plains, V.plain, Nat.reduceLeDiff, cond_true, cond_false, implies_true, eq_self, ne_eq, reduceIte, reduceCtorEq, Nat.reduceBEq, Nat.reduceLT, Nat.reduceEqDiff, Nat.reduceAdd, Nat.reduceSub, Nat.reduceMul, Int.ofNat_lt, hlt, decide_true, List.getElem?_eq_getElem hlt, hw1, wrap_nat hlt (show l.length ≤ 9223372036854775807 by omega)]
    exact Nxt.same (Nat.le_refl _) hb rfl ⟨rfl, rfl⟩
  · simp -dsimp -implicitDefEqProofs only [aw, slots0, V.copy, V.lend, V.lend1, V.cells, V.boxable, over, bldV, boundV, rowsOf, plains, V.plain, Nat.reduceLeDiff, cond_true, cond_false, implies_true, eq_self, ne_eq, reduceIte, reduceCtorEq, Nat.reduceBEq, Nat.reduceLT, Nat.reduceEqDiff, Nat.reduceAdd, Nat.reduceSub, Nat.reduceMul, Int.ofNat_lt, hlt, decide_false]
    rw [List.take_of_length_le (show l.length ≤ j by omega)]
    first | exact fin_ret hb rfl rfl List.take_length ⟨rfl, rfl⟩ | exact fin_ret hb rfl rfl List.take_left ⟨rfl, rfl⟩ | (trace_state; fail "fin")

def maxL : List Int → Int
  | [] => 0
  | a :: r => r.foldl max a
def minL : List Int → Int
  | [] => 0
  | a :: r => r.foldl min a
theorem max_fun (a : Int) (r : List Int) (hn : r.length ≤ 1000000) (σ : List (List V)) : Fun G 43 [.d (.sl (dints (a :: r)))] σ (RetV (.d (dint (maxL (a :: r)))) σ) := by
  refine fun_code Tryz.func43 k43 rfl fun hb hw => ?_
  unfold c43
  have e0 : iaV 1 (.d (.sl ([dint a] :: List.map (fun n => [dint n]) r))) (V.d (D.lit (Value.int IntKind.i64 0))) = some (.row [dint a] 0) := rfl
  have l1 : ¬ ((r.length : Int) + 1 < 1) := by omega
  simp -dsimp -implicitDefEqProofs only [aw, slots0, V.copy, V.lend, V.lend1, V.cells, V.boxable, over, bldV, boundV, rowsOf, plains, V.plain, Nat.reduceLeDiff, cond_true, cond_false, implies_true, eq_self, ne_eq, reduceIte, reduceCtorEq, Nat.reduceBEq, Nat.reduceLT, Nat.reduceEqDiff, Nat.reduceAdd, Nat.reduceSub, Nat.reduceMul, e0, decide_eq_false l1, Int.natCast_add, Int.natCast_one, Int.cast_ofNat_Int]
  refine awp_forK [0, 3, 4] (R := fun (j : Nat) ρ σ' => ρ = [(0, .d (.sl ([dint a] :: List.map (fun n => [dint n]) r))), (3, vint .i64 ((r.take j).foldl max a)), (4, vint .i64 ((j + 1 : Nat) : Int))] ∧ σ' = σ) r.length ⟨rfl, rfl⟩ ?_ _
  rintro j ρ' σ' hj ⟨rfl, rfl⟩
  by_cases hlt : j < r.length
  · have ht : (r.take (j + 1)).foldl max a = max ((r.take j).foldl max a) r[j] := by rw [List.take_add_one, List.getElem?_eq_getElem hlt, List.foldl_append]; rfl
    have hlt' : j + 1 < r.length + 1 := by omega
    simp -dsimp -implicitDefEqProofs only [aw, slots0, V.copy, V.lend, V.lend1, V.cells, V.boxable, over, bldV, boundV, rowsOf, plains, V.plain, Nat.reduceLeDiff, cond_true, cond_false, implies_true, eq_self, ne_eq, reduceIte, reduceCtorEq, Nat.reduceBEq, Nat.reduceLT, Nat.reduceEqDiff, Nat.reduceAdd, Nat.reduceSub, Nat.reduceMul, Int.ofNat_lt, hlt', decide_true, List.getElem?_eq_getElem hlt, ← ht, if_true, wrap_nat hlt' (show r.length + 1 ≤ 9223372036854775807 by omega)]
    exact ⟨hlt, Nxt.same (Nat.le_refl _) hb rfl ⟨rfl, rfl⟩⟩
  · have hlt' : ¬ j + 1 < r.length + 1 := by omega
    simp -dsimp -implicitDefEqProofs only [aw, slots0, V.copy, V.lend, V.lend1, V.cells, V.boxable, over, bldV, boundV, rowsOf, plains, V.plain, Nat.reduceLeDiff, cond_true, cond_false, implies_true, eq_self, ne_eq, reduceIte, reduceCtorEq, Nat.reduceBEq, Nat.reduceLT, Nat.reduceEqDiff, Nat.reduceAdd, Nat.reduceSub, Nat.reduceMul, Int.ofNat_lt, hlt', decide_false]
    rw [List.take_of_length_le (show r.length ≤ j by omega)]
    first | exact fin_ret hb rfl rfl List.take_length ⟨rfl, rfl⟩ | exact fin_ret hb rfl rfl List.take_left ⟨rfl, rfl⟩ | (trace_state; fail "fin")
theorem min_fun (a : Int) (r : List Int) (hn : r.length ≤ 1000000) (σ : List (List V)) : Fun G 39 [.d (.sl (dints (a :: r)))] σ (RetV (.d (dint (minL (a :: r)))) σ) := by
  refine fun_code Tryz.func39 k39 rfl fun hb hw => ?_
  unfold c39
  have e0 : iaV 1 (.d (.sl ([dint a] :: List.map (fun n => [dint n]) r))) (V.d (D.lit (Value.int IntKind.i64 0))) = some (.row [dint a] 0) := rfl
  have l1 : ¬ ((r.length : Int) + 1 < 1) := by omega
  simp -dsimp -implicitDefEqProofs only [aw, slots0, V.copy, V.lend, V.lend1, V.cells, V.boxable, over, bldV, boundV, rowsOf, plains, V.plain, Nat.reduceLeDiff, cond_true, cond_false, implies_true, eq_self, ne_eq, reduceIte, reduceCtorEq, Nat.reduceBEq, Nat.reduceLT, Nat.reduceEqDiff, Nat.reduceAdd, Nat.reduceSub, Nat.reduceMul, e0, decide_eq_false l1, Int.natCast_add, Int.natCast_one, Int.cast_ofNat_Int]
  refine awp_forK [0, 3, 4] (R := fun (j : Nat) ρ σ' => ρ = [(0, .d (.sl ([dint a] :: List.map (fun n => [dint n]) r))), (3, vint .i64 ((r.take j).foldl min a)), (4, vint .i64 ((j + 1 : Nat) : Int))] ∧ σ' = σ) r.length ⟨rfl, rfl⟩ ?_ _
  rintro j ρ' σ' hj ⟨rfl, rfl⟩
  by_cases hlt : j < r.length
  · have ht : (r.take (j + 1)).foldl min a = min ((r.take j).foldl min a) r[j] := by rw [List.take_add_one, List.getElem?_eq_getElem hlt, List.foldl_append]; rfl
    have hlt' : j + 1 < r.length + 1 := by omega
    simp -dsimp -implicitDefEqProofs only [aw, slots0, V.copy, V.lend, V.lend1, V.cells, V.boxable, over, bldV, boundV, rowsOf, plains, V.plain, Nat.reduceLeDiff, cond_true, cond_false, implies_true, eq_self, ne_eq, reduceIte, reduceCtorEq, Nat.reduceBEq, Nat.reduceLT, Nat.reduceEqDiff, Nat.reduceAdd, Nat.reduceSub, Nat.reduceMul, Int.ofNat_lt, hlt', decide_true, List.getElem?_eq_getElem hlt, ← ht, if_true, wrap_nat hlt' (show r.length + 1 ≤ 9223372036854775807 by omega)]
    exact ⟨hlt, Nxt.same (Nat.le_refl _) hb rfl ⟨rfl, rfl⟩⟩
  · have hlt' : ¬ j + 1 < r.length + 1 := by omega
    simp -dsimp -implicitDefEqProofs only [aw, slots0, V.copy, V.lend, V.lend1, V.cells, V.boxable, over, bldV, boundV, rowsOf, plains, V.plain, Nat.reduceLeDiff, cond_true, cond_false, implies_true, eq_self, ne_eq, reduceIte, reduceCtorEq, Nat.reduceBEq, Nat.reduceLT, Nat.reduceEqDiff, Nat.reduceAdd, Nat.reduceSub, Nat.reduceMul, Int.ofNat_lt, hlt', decide_false]
    rw [List.take_of_length_le (show r.length ≤ j by omega)]
    first | exact fin_ret hb rfl rfl List.take_length ⟨rfl, rfl⟩ | exact fin_ret hb rfl rfl List.take_left ⟨rfl, rfl⟩ | (trace_state; fail "fin")
theorem max_any (l : List Int) (h : l ≠ []) (hn : l.length ≤ 1000000) (σ : List (List V)) : Fun G 43 [.d (.sl (dints l))] σ (RetV (.d (dint (maxL l))) σ) := by
  cases l with
  | nil => exact absurd rfl h
  | cons a r => exact max_fun a r (by simp only [List.length_cons] at hn; omega) σ
theorem min_any (l : List Int) (h : l ≠ []) (hn : l.length ≤ 1000000) (σ : List (List V)) : Fun G 39 [.d (.sl (dints l))] σ (RetV (.d (dint (minL l))) σ) := by
  cases l with
  | nil => exact absurd rfl h
  | cons a r => exact min_fun a r (by simp only [List.length_cons] at hn; omega) σ

theorem tsizec_fun (s : Ts) (hs : tbig s ≤ 1000000) (σ : List (List V)) : FunO G 29 [vts s] 3 1 ((s.args.map fun a => (tsz a : Int)).map fun n => [dint n]) [] σ (RetV (.d (dint (tsz s))) σ) := by
  have h1 := tsz_eq s
  have h2 := tsz_le s
  have h3 := tbig_len s
  refine funo_code Tryz.func29 k29 (by simp only [vts_eq]; rfl) fun hb hw => ?_
  unfold c29
  simp -dsimp -implicitDefEqProofs only [aw, slots0, V.copy, V.lend, V.lend1, V.cells, V.boxable, over, bldV, boundV, rowsOf, plains, V.plain, Nat.reduceLeDiff, cond_true, cond_false, implies_true, eq_self, ne_eq, reduceIte, reduceCtorEq, Nat.reduceBEq, Nat.reduceLT, Nat.reduceEqDiff, Nat.reduceAdd, Nat.reduceSub, Nat.reduceMul, vts_eq]
  have hc := sum_fun (s.args.map tsz) (by omega) (by rw [List.length_map]; omega) (σ ++ [[.d (dint s.op), .d (dint s.lo), .d (dint s.hi), .d (dint s.ex.op), .d (dint s.ex.num), .d (dstr s.ex.name), .d (.sl (s.ex.args.map dex)), .d (dstr s.name), .d (.sl (s.args.map dts))]])
  rw [List.map_map] at hc
  refine fun_ret hc ?_
  have hw1 : IntKind.i64.wrap (1 + ((s.args.map tsz).sum : Nat)) = (tsz s : Int) := by rw [wrap_i64 (by omega) (by omega), h1]; omega
  simp -dsimp -implicitDefEqProofs only [aw, slots0, V.copy, V.lend, V.lend1, V.cells, V.boxable, over, bldV, boundV, rowsOf, plains, V.plain, Nat.reduceLeDiff, cond_true, cond_false, implies_true, eq_self, ne_eq, reduceIte, reduceCtorEq, Nat.reduceBEq, Nat.reduceLT, Nat.reduceEqDiff, Nat.reduceAdd, Nat.reduceSub, Nat.reduceMul, hw1]
  exact fin_ret hb rfl rfl List.take_left ⟨rfl, rfl⟩
theorem tsize_fun (s : Ts) (hs : tbig s ≤ 1000000) (σ : List (List V)) : Fun G 11 [vts s] σ (RetV (.d (dint (tsz s))) σ) := by
  refine fun_code Tryz.func11 k11 (by simp only [vts_eq]; rfl) fun hb hw => ?_
  unfold c11
  simp -dsimp -implicitDefEqProofs only [aw, slots0, V.copy, V.lend, V.lend1, V.cells, V.boxable, over, bldV, boundV, rowsOf, plains, V.plain, Nat.reduceLeDiff, cond_true, cond_false, implies_true, eq_self, ne_eq, reduceIte, reduceCtorEq, Nat.reduceBEq, Nat.reduceLT, Nat.reduceEqDiff, Nat.reduceAdd, Nat.reduceSub, Nat.reduceMul, vts_eq]
  refine fun_ret (by simpa only [vts_eq] using foldi_fun (fun s => (tsz s : Int)) 29 (fun s => tbig s ≤ 1000000) (fun s h a ha => by have := tbig_arg ha; omega) (fun s h => h) (fun s h σ => tsizec_fun s h σ) s hs _) ?_
  simp -dsimp -implicitDefEqProofs only [aw, slots0, V.copy, V.lend, V.lend1, V.cells, V.boxable, over, bldV, boundV, rowsOf, plains, V.plain, Nat.reduceLeDiff, cond_true, cond_false, implies_true, eq_self, ne_eq, reduceIte, reduceCtorEq, Nat.reduceBEq, Nat.reduceLT, Nat.reduceEqDiff, Nat.reduceAdd, Nat.reduceSub, Nat.reduceMul]
  exact fin_ret hb rfl rfl List.take_left ⟨rfl, rfl⟩
theorem maxL_dp (l : List Ts) : maxL ((l.map fun a => (tdp a : Int)) ++ [0]) = (tdps l : Nat) := by
  have H : ∀ (l : List Ts) (m : Int), 0 ≤ m → ((l.map fun a => (tdp a : Int)) ++ [0]).foldl max m = max m (tdps l : Nat) := by
    intro l
    induction l with
    | nil => intro m hm; simp only [List.map_nil, List.nil_append, List.foldl_cons, List.foldl_nil, tdps]; rfl
    | cons a r ih => intro m hm; simp only [List.map_cons, List.cons_append, List.foldl_cons, tdps]; rw [ih _ (by omega)]; omega
  cases l with
  | nil => rfl
  | cons a r => simp only [List.map_cons, List.cons_append, maxL, tdps]; rw [H r _ (by omega)]; omega
theorem tdepthc_fun (s : Ts) (hs : tbig s ≤ 1000000) (σ : List (List V)) : FunO G 48 [vts s] 3 1 ((s.args.map fun a => (tdp a : Int)).map fun n => [dint n]) [] σ (RetV (.d (dint (tdp s))) σ) := by
  have h1 := tdp_eq s
  have h2 := tdp_le s
  have h3 := tbig_len s
  refine funo_code Tryz.func48 k48 (by simp only [vts_eq]; rfl) fun hb hw => ?_
  unfold c48
  simp -dsimp -implicitDefEqProofs only [aw, slots0, V.copy, V.lend, V.lend1, V.cells, V.boxable, over, bldV, boundV, rowsOf, plains, V.plain, Nat.reduceLeDiff, cond_true, cond_false, implies_true, eq_self, ne_eq, reduceIte, reduceCtorEq, Nat.reduceBEq, Nat.reduceLT, Nat.reduceEqDiff, Nat.reduceAdd, Nat.reduceSub, Nat.reduceMul, vts_eq]
  refine onT_intro (by first | omega | (simp only [List.length_map]; omega)) ?_
  simp -dsimp -implicitDefEqProofs only [aw, slots0, V.copy, V.lend, V.lend1, V.cells, V.boxable, over, bldV, boundV, rowsOf, plains, V.plain, Nat.reduceLeDiff, cond_true, cond_false, implies_true, eq_self, ne_eq, reduceIte, reduceCtorEq, Nat.reduceBEq, Nat.reduceLT, Nat.reduceEqDiff, Nat.reduceAdd, Nat.reduceSub, Nat.reduceMul]
  have hc := max_any ((s.args.map fun a => (tdp a : Int)) ++ [0]) (by simp) (by simp only [List.length_append, List.length_map, List.length_cons, List.length_nil]; omega) (σ ++ [[.d (dint s.op), .d (dint s.lo), .d (dint s.hi), .d (dint s.ex.op), .d (dint s.ex.num), .d (dstr s.ex.name), .d (.sl (s.ex.args.map dex)), .d (dstr s.name), .d (.sl (s.args.map dts))]])
  rw [maxL_dp, dints, List.map_append] at hc
  refine fun_ret hc ?_
  have hw1 : IntKind.i64.wrap (1 + ((tdps s.args : Nat) : Int)) = (tdp s : Int) := by rw [wrap_i64 (by omega) (by omega), h1]; omega
  simp -dsimp -implicitDefEqProofs only [aw, slots0, V.copy, V.lend, V.lend1, V.cells, V.boxable, over, bldV, boundV, rowsOf, plains, V.plain, Nat.reduceLeDiff, cond_true, cond_false, implies_true, eq_self, ne_eq, reduceIte, reduceCtorEq, Nat.reduceBEq, Nat.reduceLT, Nat.reduceEqDiff, Nat.reduceAdd, Nat.reduceSub, Nat.reduceMul, hw1]
  exact fin_ret hb rfl rfl List.take_left ⟨rfl, rfl⟩
theorem tdepth_fun (s : Ts) (hs : tbig s ≤ 1000000) (σ : List (List V)) : Fun G 23 [vts s] σ (RetV (.d (dint (tdp s))) σ) := by
  refine fun_code Tryz.func23 k23 (by simp only [vts_eq]; rfl) fun hb hw => ?_
  unfold c23
  simp -dsimp -implicitDefEqProofs only [aw, slots0, V.copy, V.lend, V.lend1, V.cells, V.boxable, over, bldV, boundV, rowsOf, plains, V.plain, Nat.reduceLeDiff, cond_true, cond_false, implies_true, eq_self, ne_eq, reduceIte, reduceCtorEq, Nat.reduceBEq, Nat.reduceLT, Nat.reduceEqDiff, Nat.reduceAdd, Nat.reduceSub, Nat.reduceMul, vts_eq]
  refine fun_ret (by simpa only [vts_eq] using foldi_fun (fun s => (tdp s : Int)) 48 (fun s => tbig s ≤ 1000000) (fun s h a ha => by have := tbig_arg ha; omega) (fun s h => h) (fun s h σ => tdepthc_fun s h σ) s hs _) ?_
  simp -dsimp -implicitDefEqProofs only [aw, slots0, V.copy, V.lend, V.lend1, V.cells, V.boxable, over, bldV, boundV, rowsOf, plains, V.plain, Nat.reduceLeDiff, cond_true, cond_false, implies_true, eq_self, ne_eq, reduceIte, reduceCtorEq, Nat.reduceBEq, Nat.reduceLT, Nat.reduceEqDiff, Nat.reduceAdd, Nat.reduceSub, Nat.reduceMul]
  exact fin_ret hb rfl rfl List.take_left ⟨rfl, rfl⟩
end Go.Proofs.YtbhippphcmkjnaaGreatDoor
