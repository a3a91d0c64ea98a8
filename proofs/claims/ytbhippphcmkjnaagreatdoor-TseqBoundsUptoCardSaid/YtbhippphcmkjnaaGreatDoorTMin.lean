/-
  tseq.Min, Max; bounds of the lengths.
-/
import Derived.Test.YtbhippphcmkjnaaGreatDoorTLen
set_option linter.unusedVariables false
set_option linter.unusedSimpArgs false
namespace Go.Proofs.YtbhippphcmkjnaaGreatDoor
open Go.RowKit

/-- Shaped throughout, and not deep. -/
def GoodT (s : Ts) : Prop := (∃ b, checkT s b = 0) ∧ tdp s ≤ 8 ∧ tbig s ≤ 1000000
theorem checkTs_zero {l : List Ts} {b : Bool} (h : checkTs l b = 0) : ∀ a, a ∈ l → checkT a b = 0 := by
  induction l with
  | nil => intro a ha; cases ha
  | cons x r ih =>
    simp only [checkTs] at h
    intro a ha
    by_cases hx : checkT x b = 0
    · rw [if_pos hx] at h
      rcases List.mem_cons.1 ha with e | e
      · subst e; exact hx
      · exact ih h a e
    · rw [if_neg hx] at h; exact absurd h hx
theorem check_zero {s : Ts} {b : Bool} (h : checkT s b = 0) : nodeT s b = 0 ∧ ∀ a, a ∈ s.args → checkT a (b || decide (s.op = 5)) = 0 := by
  rw [checkT_eq] at h
  by_cases h0 : nodeT s b = 0
  · rw [if_pos h0] at h; exact ⟨h0, checkTs_zero h⟩
  · rw [if_neg h0] at h; exact absurd h h0
theorem node_shape {s : Ts} {b : Bool} (h : nodeT s b = 0) : shapeB s = true := by
  unfold nodeT at h
  cases hs : shapeB s with
  | true => rfl
  | false => rw [hs, if_pos (by simp)] at h; cases h
theorem GoodT.shape {s : Ts} (h : GoodT s) : shapeB s = true := by
  obtain ⟨⟨b, hb⟩, -⟩ := h
  exact node_shape (check_zero hb).1
theorem GoodT.arg {s a : Ts} (h : GoodT s) (ha : a ∈ s.args) : GoodT a := by
  obtain ⟨⟨b, hb⟩, h2, h3⟩ := h
  have h4 := tdps_mem ha
  have h5 := tbig_arg ha
  rw [tdp_eq] at h2
  exact ⟨⟨_, (check_zero hb).2 a ha⟩, by omega, by omega⟩
theorem GoodT.of {s : Ts} (h : validT s = 0) (hs : tbig s ≤ 1000000) : GoodT s := by
  unfold validT at h
  by_cases hc : 8 < tdp s ∨ 100 < tsz s
  · rw [if_pos hc] at h; cases h
  · rw [if_neg hc] at h; exact ⟨⟨_, h⟩, by omega, hs⟩
/-- What the shape says. -/
theorem shape_facts {s : Ts} (h : shapeB s = true) : (s.op = 1 → s.args.length = 0) ∧ (s.op = 2 → s.args.length = 2 ∧ 0 ≤ s.lo ∧ s.lo ≤ s.hi ∧ s.hi ≤ 16) ∧ (s.op = 3 → s.args.length = 1 ∧ 1 ≤ s.lo ∧ s.lo ≤ s.hi ∧ s.hi ≤ 16) ∧
    (s.op = 4 ∨ s.op = 5 → 2 ≤ s.args.length ∧ s.args.length ≤ 8) ∧ (s.op = 6 ∨ s.op = 7 → s.args.length = 1) ∧ (s.op ≠ 2 → s.op ≠ 3 → s.lo = 0 ∧ s.hi = 0) ∧ 1 ≤ s.op ∧ s.op ≤ 7 := by
  unfold shapeB plainB withinB at h
  split at h
  · simp only [Bool.and_eq_true, decide_eq_true_eq] at h; refine ⟨?_, ?_, ?_, ?_, ?_, ?_, ?_, ?_⟩ <;> omega
  split at h
  · simp only [Bool.and_eq_true, decide_eq_true_eq] at h; refine ⟨?_, ?_, ?_, ?_, ?_, ?_, ?_, ?_⟩ <;> omega
  split at h
  · simp only [Bool.and_eq_true, decide_eq_true_eq] at h; refine ⟨?_, ?_, ?_, ?_, ?_, ?_, ?_, ?_⟩ <;> omega
  split at h
  · simp only [Bool.and_eq_true, decide_eq_true_eq] at h; refine ⟨?_, ?_, ?_, ?_, ?_, ?_, ?_, ?_⟩ <;> omega
  split at h
  · simp only [Bool.and_eq_true, decide_eq_true_eq] at h; refine ⟨?_, ?_, ?_, ?_, ?_, ?_, ?_, ?_⟩ <;> omega
  · cases h
theorem foldl_max_bd (r : List Int) : ∀ a : Int, a ≤ r.foldl max a ∧ (∀ x, x ∈ r → x ≤ r.foldl max a) ∧ (r.foldl max a = a ∨ r.foldl max a ∈ r) := by
  induction r with
  | nil => intro a; simp
  | cons y r ih =>
    intro a
    obtain ⟨h1, h2, h3⟩ := ih (max a y)
    refine ⟨by simp only [List.foldl_cons]; omega, fun x hx => ?_, ?_⟩
    · simp only [List.foldl_cons]
      rcases List.mem_cons.1 hx with e | e
      · subst e; omega
      · exact h2 x e
    · simp only [List.foldl_cons, List.mem_cons]
      rcases h3 with e | e
      · rw [e]; rcases Int.le_total a y with hc | hc
        · right; left; omega
        · left; omega
      · exact .inr (.inr e)
theorem foldl_min_bd (r : List Int) : ∀ a : Int, r.foldl min a ≤ a ∧ (∀ x, x ∈ r → r.foldl min a ≤ x) ∧ (r.foldl min a = a ∨ r.foldl min a ∈ r) := by
  induction r with
  | nil => intro a; simp
  | cons y r ih =>
    intro a
    obtain ⟨h1, h2, h3⟩ := ih (min a y)
    refine ⟨by simp only [List.foldl_cons]; omega, fun x hx => ?_, ?_⟩
    · simp only [List.foldl_cons]
      rcases List.mem_cons.1 hx with e | e
      · subst e; omega
      · exact h2 x e
    · simp only [List.foldl_cons, List.mem_cons]
      rcases h3 with e | e
      · rw [e]; rcases Int.le_total a y with hc | hc
        · left; omega
        · right; left; omega
      · exact .inr (.inr e)
theorem maxL_bd {l : List Int} (h : l ≠ []) : maxL l ∈ l ∧ ∀ x, x ∈ l → x ≤ maxL l := by
  cases l with
  | nil => exact absurd rfl h
  | cons a r =>
    obtain ⟨h1, h2, h3⟩ := foldl_max_bd r a
    refine ⟨?_, fun x hx => ?_⟩
    · rcases h3 with e | e
      · show r.foldl max a ∈ a :: r
        rw [e]; simp
      · exact List.mem_cons_of_mem _ e
    · rcases List.mem_cons.1 hx with e | e
      · subst e; exact h1
      · exact h2 x e
theorem minL_bd {l : List Int} (h : l ≠ []) : minL l ∈ l ∧ ∀ x, x ∈ l → minL l ≤ x := by
  cases l with
  | nil => exact absurd rfl h
  | cons a r =>
    obtain ⟨h1, h2, h3⟩ := foldl_min_bd r a
    refine ⟨?_, fun x hx => ?_⟩
    · rcases h3 with e | e
      · show r.foldl min a ∈ a :: r
        rw [e]; simp
      · exact List.mem_cons_of_mem _ e
    · rcases List.mem_cons.1 hx with e | e
      · subst e; exact h1
      · exact h2 x e
theorem len_bd (s : Ts) : GoodT s → 1 ≤ lenT false s ∧ lenT false s ≤ lenT true s ∧ lenT true s ≤ (16 : Int) ^ tdp s := by
  induction s using Ts.ind with
  | h s ih =>
  intro hg
  obtain ⟨f1, f2, f3, f4, f5, f6, f7, f8⟩ := shape_facts hg.shape
  have hA : ∀ a, a ∈ s.args → 1 ≤ lenT false a ∧ lenT false a ≤ lenT true a ∧ lenT true a ≤ (16 : Int) ^ tdps s.args := fun a ha => by
    obtain ⟨h1, h2, h3⟩ := ih a ha (hg.arg ha)
    refine ⟨h1, h2, Int.le_trans h3 ?_⟩
    have := tdps_mem ha
    exact_mod_cast Nat.pow_le_pow_right (by omega) this
  rw [tdp_eq, lenT_eq, lenT_eq]
  have hp : (16 : Int) ^ (1 + tdps s.args) = 16 * 16 ^ tdps s.args := by rw [Int.pow_add]; rfl
  rw [hp]
  have hp1 : (1 : Int) ≤ 16 ^ tdps s.args := by exact_mod_cast Nat.pow_pos (n := tdps s.args) (by omega : 0 < 16)
  have hp16 : s.args ≠ [] → (16 : Int) ≤ 16 ^ tdps s.args := fun hne => by
    obtain ⟨a, ha⟩ := List.exists_mem_of_ne_nil _ hne
    have h1 := tdps_mem ha
    have h2 := tdp_eq a
    have h3 : 16 ^ 1 ≤ 16 ^ tdps s.args := Nat.pow_le_pow_right (by omega) (by omega)
    exact_mod_cast h3
  generalize hP : (16 : Int) ^ tdps s.args = P at hA hp1 hp16 ⊢
  have one : ∀ n, s.args.length = n + 1 → s.args ≠ [] := fun n h e => by rw [e] at h; cases h
  simp only [if_true, Bool.false_eq_true, if_false]
  unfold lenF
  by_cases o2 : s.op = 2
  · simp only [if_pos o2]
    obtain ⟨g1, g2, g3, g4⟩ := f2 o2
    have g5 := hp16 (one _ g1)
    match hl : s.args, g1 with
    | [x, y], _ =>
    rw [hl] at hA
    have hx := hA x (by simp)
    have hy := hA y (by simp)
    simp only [List.map_cons, List.map_nil, List.getD_cons_zero, List.getD_cons_succ]
    omega
  by_cases o3 : s.op = 3
  · simp only [if_neg o2, if_pos o3]
    obtain ⟨g1, g2, g3, g4⟩ := f3 o3
    match hl : s.args, g1 with
    | [x], _ =>
    rw [hl] at hA
    obtain ⟨k1, k2, k3⟩ := hA x (by simp)
    simp only [List.map_cons, List.map_nil, List.getD_cons_zero]
    refine ⟨?_, ?_, ?_⟩
    · have := Int.mul_le_mul k1 g2 (by omega) (by omega); omega
    · exact Int.mul_le_mul k2 g3 (by omega) (by omega)
    · rw [Int.mul_comm 16 P]; exact Int.mul_le_mul k3 g4 (by omega) (by omega)
  simp only [if_neg o2, if_neg o3]
  have mem : ∀ (mx : Bool) (x : Int), x ∈ s.args.map (lenT mx) → ∃ a, a ∈ s.args ∧ lenT mx a = x := fun mx x h => by
    obtain ⟨a, h1, h2⟩ := List.mem_map.1 h; exact ⟨a, h1, h2⟩
  by_cases o45 : s.op = 4 ∨ s.op = 5
  · obtain ⟨g1, g2⟩ := f4 o45
    have hne : ∀ mx, s.args.map (lenT mx) ≠ [] := fun mx h => by
      have := congrArg List.length h
      simp only [List.length_map, List.length_nil] at this; omega
    obtain ⟨m1, m2⟩ := maxL_bd (hne true)
    obtain ⟨m3, m4⟩ := maxL_bd (hne false)
    obtain ⟨m5, m6⟩ := minL_bd (hne false)
    obtain ⟨a1, b1, c1⟩ := mem _ _ m1
    obtain ⟨a3, b3, c3⟩ := mem _ _ m3
    obtain ⟨a5, b5, c5⟩ := mem _ _ m5
    have h1 := hA a1 b1
    have h3 := hA a3 b3
    have h5 := hA a5 b5
    have k3 := m2 (lenT true a3) (List.mem_map_of_mem b3)
    have k5 := m2 (lenT true a5) (List.mem_map_of_mem b5)
    by_cases o4 : s.op = 4
    · simp only [if_pos o4, Bool.false_eq_true, if_true, if_false]; omega
    · have o5 : s.op = 5 := by omega
      simp only [if_neg o4, if_pos o5]; omega
  simp only [if_neg (show ¬ s.op = 4 by omega), if_neg (show ¬ s.op = 5 by omega)]
  by_cases o67 : s.op = 6 ∨ s.op = 7
  · simp only [if_pos o67]
    have g1 := f5 o67
    match hl : s.args, g1 with
    | [x], _ =>
    rw [hl] at hA
    have hx := hA x (by simp)
    simp only [List.map_cons, List.map_nil, List.getD_cons_zero]
    omega
  · simp only [if_neg o67]; omega
theorem len_small {s : Ts} (h : GoodT s) (mx : Bool) : 0 ≤ lenT mx s ∧ lenT mx s ≤ 1000000000000 := by
  obtain ⟨h1, h2, h3⟩ := len_bd s h
  have h4 : (16 : Int) ^ tdp s ≤ 16 ^ 8 := by exact_mod_cast Nat.pow_le_pow_right (by omega) h.2.1
  have h5 : (16 : Int) ^ 8 = 4294967296 := by decide
  cases mx <;> omega
theorem minc_fun (l : List Int) (h : l ≠ []) (hn : l.length ≤ 1000000) (σ : List (List V)) : Fun G 38 [.d (.sl (dints l))] σ (RetV (.d (dint (minL l))) σ) := by
  refine fun_code Tryz.func38 k38 rfl fun hb hw => ?_
  unfold c38
  simp -dsimp -implicitDefEqProofs only [aw, slots0, V.copy, V.lend, V.lend1, V.cells, V.boxable, over, bldV, boundV, rowsOf, plains, V.plain, Nat.reduceLeDiff, cond_true, cond_false, implies_true, eq_self, ne_eq, reduceIte, reduceCtorEq, Nat.reduceBEq, Nat.reduceLT, Nat.reduceEqDiff, Nat.reduceAdd, Nat.reduceSub, Nat.reduceMul]
  refine fun_ret (min_any l h hn _) ?_
  simp -dsimp -implicitDefEqProofs only [aw, slots0, V.copy, V.lend, V.lend1, V.cells, V.boxable, over, bldV, boundV, rowsOf, plains, V.plain, Nat.reduceLeDiff, cond_true, cond_false, implies_true, eq_self, ne_eq, reduceIte, reduceCtorEq, Nat.reduceBEq, Nat.reduceLT, Nat.reduceEqDiff, Nat.reduceAdd, Nat.reduceSub, Nat.reduceMul]
  first | exact fin_ret hb rfl rfl List.take_length ⟨rfl, rfl⟩ | exact fin_ret hb rfl rfl List.take_left ⟨rfl, rfl⟩ | (trace_state; fail "fin")
theorem maxc_fun (l : List Int) (h : l ≠ []) (hn : l.length ≤ 1000000) (σ : List (List V)) : Fun G 42 [.d (.sl (dints l))] σ (RetV (.d (dint (maxL l))) σ) := by
  refine fun_code Tryz.func42 k42 rfl fun hb hw => ?_
  unfold c42
  simp -dsimp -implicitDefEqProofs only [aw, slots0, V.copy, V.lend, V.lend1, V.cells, V.boxable, over, bldV, boundV, rowsOf, plains, V.plain, Nat.reduceLeDiff, cond_true, cond_false, implies_true, eq_self, ne_eq, reduceIte, reduceCtorEq, Nat.reduceBEq, Nat.reduceLT, Nat.reduceEqDiff, Nat.reduceAdd, Nat.reduceSub, Nat.reduceMul]
  refine fun_ret (max_any l h hn _) ?_
  simp -dsimp -implicitDefEqProofs only [aw, slots0, V.copy, V.lend, V.lend1, V.cells, V.boxable, over, bldV, boundV, rowsOf, plains, V.plain, Nat.reduceLeDiff, cond_true, cond_false, implies_true, eq_self, ne_eq, reduceIte, reduceCtorEq, Nat.reduceBEq, Nat.reduceLT, Nat.reduceEqDiff, Nat.reduceAdd, Nat.reduceSub, Nat.reduceMul]
  first | exact fin_ret hb rfl rfl List.take_length ⟨rfl, rfl⟩ | exact fin_ret hb rfl rfl List.take_left ⟨rfl, rfl⟩ | (trace_state; fail "fin")
theorem tminc_fun (s : Ts) (hg : GoodT s) (σ : List (List V)) : FunO G 36 [vts s] 3 1 ((s.args.map (lenT false)).map fun n => [dint n]) [] σ (RetV (.d (dint (lenT false s))) σ) := by
  obtain ⟨f1, f2, f3, f4, f5, f6, f7, f8⟩ := shape_facts hg.shape
  have hln := tbig_len s
  have hbg := hg.2.2
  have hq := lenT_eq false s
  simp only [Bool.false_eq_true, if_false] at hq
  refine funo_code Tryz.func36 k36 (by simp only [vts_eq]; rfl) fun hb hw => ?_
  unfold c36
  simp -dsimp -implicitDefEqProofs only [aw, slots0, V.copy, V.lend, V.lend1, V.cells, V.boxable, over, bldV, boundV, rowsOf, plains, V.plain, Nat.reduceLeDiff, cond_true, cond_false, implies_true, eq_self, ne_eq, reduceIte, reduceCtorEq, Nat.reduceBEq, Nat.reduceLT, Nat.reduceEqDiff, Nat.reduceAdd, Nat.reduceSub, Nat.reduceMul, vts_eq]
  have hc := fun σ' => length_fun s (s.args.map (lenT false)) s.lo false 38 (by rw [List.length_map]; omega) (by rw [List.length_map]; omega) (by rw [List.length_map]; omega) (by rw [List.length_map]; omega)
    (fun x hx => by obtain ⟨a, ha, e⟩ := List.mem_map.1 hx; subst e; exact len_small (hg.arg ha) false) (by omega)
    (fun o4 σ => by simpa using minc_fun (s.args.map (lenT false)) (fun h => by have := congrArg List.length h; simp only [List.length_map, List.length_nil] at this; omega) (by rw [List.length_map]; omega) σ) σ'
  rw [← hq] at hc
  refine fun_ret (by simpa only [vts_eq, dints, List.map_map] using hc _) ?_
  simp -dsimp -implicitDefEqProofs only [aw, slots0, V.copy, V.lend, V.lend1, V.cells, V.boxable, over, bldV, boundV, rowsOf, plains, V.plain, Nat.reduceLeDiff, cond_true, cond_false, implies_true, eq_self, ne_eq, reduceIte, reduceCtorEq, Nat.reduceBEq, Nat.reduceLT, Nat.reduceEqDiff, Nat.reduceAdd, Nat.reduceSub, Nat.reduceMul]
  first | exact fin_ret hb rfl rfl List.take_length ⟨rfl, rfl⟩ | exact fin_ret hb rfl rfl List.take_left ⟨rfl, rfl⟩ | (trace_state; fail "fin")
theorem tmaxc_fun (s : Ts) (hg : GoodT s) (σ : List (List V)) : FunO G 41 [vts s] 3 1 ((s.args.map (lenT true)).map fun n => [dint n]) [] σ (RetV (.d (dint (lenT true s))) σ) := by
  obtain ⟨f1, f2, f3, f4, f5, f6, f7, f8⟩ := shape_facts hg.shape
  have hln := tbig_len s
  have hbg := hg.2.2
  have hq := lenT_eq true s
  simp only [if_true] at hq
  refine funo_code Tryz.func41 k41 (by simp only [vts_eq]; rfl) fun hb hw => ?_
  unfold c41
  simp -dsimp -implicitDefEqProofs only [aw, slots0, V.copy, V.lend, V.lend1, V.cells, V.boxable, over, bldV, boundV, rowsOf, plains, V.plain, Nat.reduceLeDiff, cond_true, cond_false, implies_true, eq_self, ne_eq, reduceIte, reduceCtorEq, Nat.reduceBEq, Nat.reduceLT, Nat.reduceEqDiff, Nat.reduceAdd, Nat.reduceSub, Nat.reduceMul, vts_eq]
  have hc := fun σ' => length_fun s (s.args.map (lenT true)) s.hi true 42 (by rw [List.length_map]; omega) (by rw [List.length_map]; omega) (by rw [List.length_map]; omega) (by rw [List.length_map]; omega)
    (fun x hx => by obtain ⟨a, ha, e⟩ := List.mem_map.1 hx; subst e; exact len_small (hg.arg ha) true) (by omega)
    (fun o4 σ => by simpa using maxc_fun (s.args.map (lenT true)) (fun h => by have := congrArg List.length h; simp only [List.length_map, List.length_nil] at this; omega) (by rw [List.length_map]; omega) σ) σ'
  rw [← hq] at hc
  refine fun_ret (by simpa only [vts_eq, dints, List.map_map] using hc _) ?_
  simp -dsimp -implicitDefEqProofs only [aw, slots0, V.copy, V.lend, V.lend1, V.cells, V.boxable, over, bldV, boundV, rowsOf, plains, V.plain, Nat.reduceLeDiff, cond_true, cond_false, implies_true, eq_self, ne_eq, reduceIte, reduceCtorEq, Nat.reduceBEq, Nat.reduceLT, Nat.reduceEqDiff, Nat.reduceAdd, Nat.reduceSub, Nat.reduceMul]
  first | exact fin_ret hb rfl rfl List.take_length ⟨rfl, rfl⟩ | exact fin_ret hb rfl rfl List.take_left ⟨rfl, rfl⟩ | (trace_state; fail "fin")
def minT (s : Ts) : Int := if validT s = 0 then lenT false s else 0
def maxT (s : Ts) : Int := if validT s = 0 then lenT true s else 0
theorem tmin_fun (s : Ts) (hs : tbig s ≤ 1000000) (σ : List (List V)) : Fun G 16 [vts s] σ (RetV (.d (dint (minT s))) σ) := by
  refine fun_code Tryz.func16 k16 (by simp only [vts_eq]; rfl) fun hb hw => ?_
  unfold c16
  have hq : minT s = minT s := rfl
  conv at hq => rhs; unfold minT
  simp -dsimp -implicitDefEqProofs only [aw, slots0, V.copy, V.lend, V.lend1, V.cells, V.boxable, over, bldV, boundV, rowsOf, plains, V.plain, Nat.reduceLeDiff, cond_true, cond_false, implies_true, eq_self, ne_eq, reduceIte, reduceCtorEq, Nat.reduceBEq, Nat.reduceLT, Nat.reduceEqDiff, Nat.reduceAdd, Nat.reduceSub, Nat.reduceMul, vts_eq]
  refine fun_ret (by simpa only [vts_eq] using tvalid_fun s hs _) ?_
  by_cases h0 : validT s = 0
  · rw [if_pos h0] at hq
    simp -dsimp -implicitDefEqProofs only [aw, slots0, V.copy, V.lend, V.lend1, V.cells, V.boxable, over, bldV, boundV, rowsOf, plains, V.plain, Nat.reduceLeDiff, cond_true, cond_false, implies_true, eq_self, ne_eq, reduceIte, reduceCtorEq, Nat.reduceBEq, Nat.reduceLT, Nat.reduceEqDiff, Nat.reduceAdd, Nat.reduceSub, Nat.reduceMul, h0, Int.reduceEq, decide_true, decide_false]
    refine fun_ret (by simpa only [vts_eq] using foldi_fun (lenT false) 36 GoodT (fun s h a ha => h.arg ha) (fun s h => h.2.2) (fun s h σ => tminc_fun s h σ) s (GoodT.of h0 hs) _) ?_
    simp -dsimp -implicitDefEqProofs only [aw, slots0, V.copy, V.lend, V.lend1, V.cells, V.boxable, over, bldV, boundV, rowsOf, plains, V.plain, Nat.reduceLeDiff, cond_true, cond_false, implies_true, eq_self, ne_eq, reduceIte, reduceCtorEq, Nat.reduceBEq, Nat.reduceLT, Nat.reduceEqDiff, Nat.reduceAdd, Nat.reduceSub, Nat.reduceMul]
    exact fin_ret hb rfl rfl List.take_left ⟨by rw [hq]; rfl, rfl⟩
  · rw [if_neg h0] at hq
    simp -dsimp -implicitDefEqProofs only [aw, slots0, V.copy, V.lend, V.lend1, V.cells, V.boxable, over, bldV, boundV, rowsOf, plains, V.plain, Nat.reduceLeDiff, cond_true, cond_false, implies_true, eq_self, ne_eq, reduceIte, reduceCtorEq, Nat.reduceBEq, Nat.reduceLT, Nat.reduceEqDiff, Nat.reduceAdd, Nat.reduceSub, Nat.reduceMul, decide_eq_false h0]
    exact fin_ret hb rfl rfl List.take_left ⟨by rw [hq]; rfl, rfl⟩
theorem tmax_fun (s : Ts) (hs : tbig s ≤ 1000000) (σ : List (List V)) : Fun G 18 [vts s] σ (RetV (.d (dint (maxT s))) σ) := by
  refine fun_code Tryz.func18 k18 (by simp only [vts_eq]; rfl) fun hb hw => ?_
  unfold c18
  have hq : maxT s = maxT s := rfl
  conv at hq => rhs; unfold maxT
  simp -dsimp -implicitDefEqProofs only [aw, slots0, V.copy, V.lend, V.lend1, V.cells, V.boxable, over, bldV, boundV, rowsOf, plains, V.plain, Nat.reduceLeDiff, cond_true, cond_false, implies_true, eq_self, ne_eq, reduceIte, reduceCtorEq, Nat.reduceBEq, Nat.reduceLT, Nat.reduceEqDiff, Nat.reduceAdd, Nat.reduceSub, Nat.reduceMul, vts_eq]
  refine fun_ret (by simpa only [vts_eq] using tvalid_fun s hs _) ?_
  by_cases h0 : validT s = 0
  · rw [if_pos h0] at hq
    simp -dsimp -implicitDefEqProofs only [aw, slots0, V.copy, V.lend, V.lend1, V.cells, V.boxable, over, bldV, boundV, rowsOf, plains, V.plain, Nat.reduceLeDiff, cond_true, cond_false, implies_true, eq_self, ne_eq, reduceIte, reduceCtorEq, Nat.reduceBEq, Nat.reduceLT, Nat.reduceEqDiff, Nat.reduceAdd, Nat.reduceSub, Nat.reduceMul, h0, Int.reduceEq, decide_true, decide_false]
    refine fun_ret (by simpa only [vts_eq] using foldi_fun (lenT true) 41 GoodT (fun s h a ha => h.arg ha) (fun s h => h.2.2) (fun s h σ => tmaxc_fun s h σ) s (GoodT.of h0 hs) _) ?_
    simp -dsimp -implicitDefEqProofs only [aw, slots0, V.copy, V.lend, V.lend1, V.cells, V.boxable, over, bldV, boundV, rowsOf, plains, V.plain, Nat.reduceLeDiff, cond_true, cond_false, implies_true, eq_self, ne_eq, reduceIte, reduceCtorEq, Nat.reduceBEq, Nat.reduceLT, Nat.reduceEqDiff, Nat.reduceAdd, Nat.reduceSub, Nat.reduceMul]
    exact fin_ret hb rfl rfl List.take_left ⟨by rw [hq]; rfl, rfl⟩
  · rw [if_neg h0] at hq
    simp -dsimp -implicitDefEqProofs only [aw, slots0, V.copy, V.lend, V.lend1, V.cells, V.boxable, over, bldV, boundV, rowsOf, plains, V.plain, Nat.reduceLeDiff, cond_true, cond_false, implies_true, eq_self, ne_eq, reduceIte, reduceCtorEq, Nat.reduceBEq, Nat.reduceLT, Nat.reduceEqDiff, Nat.reduceAdd, Nat.reduceSub, Nat.reduceMul, decide_eq_false h0]
    exact fin_ret hb rfl rfl List.take_left ⟨by rw [hq]; rfl, rfl⟩
end Go.Proofs.YtbhippphcmkjnaaGreatDoor
