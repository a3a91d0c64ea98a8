/-
  GroupsLevels.
-/
import Derived.Test.YtinenohgemndiaaGx5
set_option linter.unusedVariables false
set_option linter.unusedSimpArgs false
set_option linter.unusedSectionVars false
namespace Go.Proofs.Ytinenohgemndiaa
open Go.RowKit
theorem lev_prev {R : Nat → Nat → Prop} {v m : Nat} (h : Lev R v m) (hm : m ≠ 0) : ∃ u, R u v ∧ Lev R u (m - 1) := by
  rcases h.1 with h0 | ⟨w, hw⟩
  · exact absurd h0 hm
  rcases hw.last with ⟨rfl, hr⟩ | ⟨c, hr, hc⟩
  · exact ⟨w, hr, .inl rfl, fun u j hj => by have := h.2 _ _ (hj.snoc hr); omega⟩
  · exact ⟨c, hr, .inr ⟨w, hc⟩, fun u j hj => by have := h.2 _ _ (hj.snoc hr); omega⟩
def cnz (L : List Nat) : Nat := (L.filter fun x => decide (x ≠ 0)).length
theorem cnz_set {y : Nat} (hy : y ≠ 0) : ∀ {L : List Nat} {k : Nat}, at0 L k = 0 → k < L.length → cnz (L.set k y) = cnz L + 1
  | x :: r, 0, h, _ => by
    have hx : x = 0 := h
    unfold cnz
    rw [List.set_cons_zero, List.filter_cons_of_pos (by simpa using hy), List.filter_cons_of_neg (by simpa using hx), List.length_cons]
  | x :: r, k + 1, h, hk => by
    have ih := cnz_set hy (L := r) (k := k) (by simpa [at0] using h) (by simpa using hk)
    unfold cnz at ih ⊢
    rw [List.set_cons_succ]
    by_cases hx : x = 0
    · rw [List.filter_cons_of_neg (by simpa using hx), List.filter_cons_of_neg (by simpa using hx)]; exact ih
    · rw [List.filter_cons_of_pos (by simpa using hx), List.filter_cons_of_pos (by simpa using hx), List.length_cons, List.length_cons]; omega
theorem cnz_le (L : List Nat) : cnz L ≤ L.length := List.length_filter_le _ _
theorem cnz_all {L : List Nat} (h : ∀ v, v < L.length → at0 L v ≠ 0) : cnz L = L.length := by
  unfold cnz
  rw [List.filter_eq_self.2]
  intro x hx
  obtain ⟨i, hi, rfl⟩ := List.getElem_of_mem hx
  have := h i hi
  unfold at0 at this
  rw [List.getElem?_eq_getElem hi] at this
  simpa using this
theorem cnz_zero (n : Nat) : cnz (List.replicate n 0) = 0 := by unfold cnz; simp
structure LP (l : Prs) (n : Nat) (lv : List Nat) (k i : Nat) (L : List Nat) : Prop where
  len : L.length = n
  val : ∀ v, v < n → ∀ m, Lev (RL l) v m → at0 L v = if m < k then m + 1 else if m = k ∧ v ∈ lv.take i then k + 1 else 0
theorem LP.start (l : Prs) (n : Nat) (lv : List Nat) : LP l n lv 0 0 (List.replicate n 0) := ⟨by simp, fun v hv m h => by
  rw [if_neg (by omega), List.take_zero, if_neg (by simp), at0_zero]⟩
theorem LP.lv {l : Prs} {n : Nat} {lv : List Nat} {k : Nat} {L : List Nat} (h : LP l n lv k 0 L) (lv' : List Nat) : LP l n lv' k 0 L := ⟨h.len, fun v hv m hm => by
  rw [h.val v hv m hm, List.take_zero, List.take_zero]⟩
theorem LP.step {l : Prs} {n : Nat} {lv : List Nat} {k i : Nat} {L : List Nat} (h : LP l n lv k i L) (hi : i < lv.length) (hx : at0 lv i < n) (hL : Lev (RL l) (at0 lv i) k) : LP l n lv k (i + 1) (L.set (at0 lv i) (k + 1)) := by
  have e : lv[i]? = some (at0 lv i) := by unfold at0; rw [List.getElem?_eq_getElem hi]; rfl
  refine ⟨by rw [List.length_set]; exact h.len, fun v hv m hm => ?_⟩
  rw [at0_set (by rw [h.len]; exact hx), List.take_add_one, e]
  generalize at0 lv i = x at *
  by_cases ev : v = x
  · subst ev
    have := hm.unique hL
    subst this
    rw [if_pos rfl, if_neg (by omega), if_pos (by simp)]
  · rw [if_neg ev, h.val v hv m hm]
    simp only [Option.toList_some, List.mem_append, List.mem_singleton, ev, or_false]
theorem LP.next {l : Prs} {n : Nat} {lv : List Nat} {k : Nat} {L : List Nat} (h : LP l n lv k lv.length L) (hA : ∀ v, v < n → Lev (RL l) v k → v ∈ lv) (lv' : List Nat) : LP l n lv' (k + 1) 0 L := ⟨h.len, fun v hv m hm => by
  rw [h.val v hv m hm, List.take_length, List.take_zero]
  by_cases h1 : m < k
  · rw [if_pos h1, if_pos (by omega)]
  · rw [if_neg h1]
    by_cases h2 : m = k
    · subst h2
      rw [if_pos ⟨rfl, hA v hv hm⟩, if_pos (by omega)]
    · rw [if_neg (fun h => h2 h.1), if_neg (by omega), if_neg (by simp)]⟩
theorem levels_err (e : Int) (n : Int) (l : Rw) (hf : fewB n l = true) (he : e ≠ 0)
    (ha : ∀ σ, Fun G 11 [.d (dint n), .d (drel l)] σ (RetV (.tup [.d (.sl []), .d (dint e)]) σ)) (σ : List (List V)) : Fun G 4 [.d (dint n), .d (drel l)] σ (RetV (vbool true) σ) := by
  refine fun_code Try.func4 k4 rfl fun hb hw => ?_
  unfold c4
  simp -dsimp -implicitDefEqProofs only [aw, slots0, V.copy, V.lend, V.lend1, V.cells, V.boxable, over, bldV, boundV, rowsOf, plains, V.plain, Nat.reduceLeDiff, cond_true, cond_false, implies_true, eq_self, ne_eq, reduceIte, reduceCtorEq, Nat.reduceBEq, Nat.reduceLT, Nat.reduceEqDiff, Nat.reduceAdd, Nat.reduceSub, Nat.reduceMul]
  refine fun_ret (few_fun n l _) ?_
  rw [hf]
  simp -dsimp -implicitDefEqProofs only [aw, slots0, V.copy, V.lend, V.lend1, V.cells, V.boxable, over, bldV, boundV, rowsOf, plains, V.plain, Nat.reduceLeDiff, cond_true, cond_false, implies_true, eq_self, ne_eq, reduceIte, reduceCtorEq, Nat.reduceBEq, Nat.reduceLT, Nat.reduceEqDiff, Nat.reduceAdd, Nat.reduceSub, Nat.reduceMul]
  refine fun_ret (ha _) ?_
  have h0 : ((0 : Nat) : Int) = 0 := rfl
  simp -dsimp -implicitDefEqProofs only [aw, slots0, V.copy, V.lend, V.lend1, V.cells, V.boxable, over, bldV, boundV, rowsOf, plains, V.plain, Nat.reduceLeDiff, cond_true, cond_false, implies_true, eq_self, ne_eq, reduceIte, reduceCtorEq, Nat.reduceBEq, Nat.reduceLT, Nat.reduceEqDiff, Nat.reduceAdd, Nat.reduceSub, Nat.reduceMul, he, decide_true, decide_false, Bool.not_false, ne_eq, not_false_eq_true, List.length_nil, h0]
  refine fun_ret (awake_fun _) ?_
  simp -dsimp -implicitDefEqProofs only [aw, slots0, V.copy, V.lend, V.lend1, V.cells, V.boxable, over, bldV, boundV, rowsOf, plains, V.plain, Nat.reduceLeDiff, cond_true, cond_false, implies_true, eq_self, ne_eq, reduceIte, reduceCtorEq, Nat.reduceBEq, Nat.reduceLT, Nat.reduceEqDiff, Nat.reduceAdd, Nat.reduceSub, Nat.reduceMul]
  first | exact fin_ret hb rfl rfl List.take_length ⟨rfl, rfl⟩ | exact fin_ret hb rfl rfl List.take_left ⟨rfl, rfl⟩ | (trace_state; fail "fin")
set_option maxHeartbeats 4000000 in
theorem levels_ok (n : Nat) (l : Prs) (hn : n ≤ 64) (hp : ∀ a b, RL l a b → a < n ∧ b < n) (hll : l.length ≤ 60) (ls : List (List Nat)) (hls : ls.length ≤ n) (hlr : ∀ r ∈ ls, r.length ≤ n)
    (hA : ∀ j lv, ls[j]? = some lv → lv.Pairwise (· < ·) ∧ ∀ i, i ∈ lv ↔ i < n ∧ Lev (RL l) i j) (hB : ∀ i, i < n → ∃ m, m < ls.length ∧ Lev (RL l) i m)
    (hf : fewB n (l.map fun q => ((q.1 : Int), (q.2 : Int))) = true) (hv : validR n (l.map fun q => ((q.1 : Int), (q.2 : Int))) = true)
    (ha : ∀ σ, Fun G 11 [.d (dint n), .d (dprs l)] σ (RetV (.tup [.d (dlls ls), .d (dint 0)]) σ)) (σ : List (List V)) : Fun G 4 [.d (dint n), .d (dprs l)] σ (RetV (vbool true) σ) := by
  refine fun_code Try.func4 k4 rfl fun hb hw => ?_
  unfold c4
  have hdd : dprs l = drel (l.map fun q => ((q.1 : Int), (q.2 : Int))) := rfl
  have hfw := fun σ => few_fun n (l.map fun q => ((q.1 : Int), (q.2 : Int))) σ
  have hvv := fun σ => refvalid_fun n (l.map fun q => ((q.1 : Int), (q.2 : Int))) (by rw [List.length_map]; omega) σ
  rw [← hdd, hf] at hfw
  rw [← hdd, hv] at hvv
  have hi1 : (0 : Int) ≤ ((n : Nat) : Int) ∧ ((n : Nat) : Int) * ((8 : Nat) : Int) ≤ 140737488355328 := by omega
  rw [dprs_eq] at ha hfw hvv ⊢
  clear hdd
  simp -dsimp -implicitDefEqProofs only [aw, slots0, V.copy, V.lend, V.lend1, V.cells, V.boxable, over, bldV, boundV, rowsOf, plains, V.plain, Nat.reduceLeDiff, cond_true, cond_false, implies_true, eq_self, ne_eq, reduceIte, reduceCtorEq, Nat.reduceBEq, Nat.reduceLT, Nat.reduceEqDiff, Nat.reduceAdd, Nat.reduceSub, Nat.reduceMul]
  refine fun_ret (hfw _) ?_
  simp -dsimp -implicitDefEqProofs only [aw, slots0, V.copy, V.lend, V.lend1, V.cells, V.boxable, over, bldV, boundV, rowsOf, plains, V.plain, Nat.reduceLeDiff, cond_true, cond_false, implies_true, eq_self, ne_eq, reduceIte, reduceCtorEq, Nat.reduceBEq, Nat.reduceLT, Nat.reduceEqDiff, Nat.reduceAdd, Nat.reduceSub, Nat.reduceMul]
  refine fun_ret (ha _) ?_
  simp -dsimp -implicitDefEqProofs only [aw, slots0, V.copy, V.lend, V.lend1, V.cells, V.boxable, over, bldV, boundV, rowsOf, plains, V.plain, Nat.reduceLeDiff, cond_true, cond_false, implies_true, eq_self, ne_eq, reduceIte, reduceCtorEq, Nat.reduceBEq, Nat.reduceLT, Nat.reduceEqDiff, Nat.reduceAdd, Nat.reduceSub, Nat.reduceMul, decide_true, decide_false, ne_eq, not_true_eq_false]
  refine fun_ret (hvv _) ?_
  have hdl : dlls ls = .sl (ls.map fun l => [dints (cst l)]) := rfl
  rw [hdl]
  simp -dsimp -implicitDefEqProofs only [aw, slots0, V.copy, V.lend, V.lend1, V.cells, V.boxable, over, bldV, boundV, rowsOf, plains, V.plain, Nat.reduceLeDiff, cond_true, cond_false, implies_true, eq_self, ne_eq, reduceIte, reduceCtorEq, Nat.reduceBEq, Nat.reduceLT, Nat.reduceEqDiff, Nat.reduceAdd, Nat.reduceSub, Nat.reduceMul, Bool.not_true, hi1, Int.toNat_natCast, vis_rep]
  refine awp_forK [0, 1, 5, 7, 8, 9] (fun (k : Nat) ρ τ => ∃ L, ρ = [(0, .d (dint n)), (1, .d (.sl (l.map fun p => [dint p.1, dint p.2]))), (5, .d (.sl (ls.map fun l => [dints (cst l)]))), (7, .bsl σ.length 0 n 1), (8, .d (dint (cnz L : Nat))), (9, vint .i64 k)] ∧ τ = σ ++ [vis L] ∧ LP l n [] k 0 L) ls.length ?_ ?_ _
  · exact ⟨List.replicate n 0, by rw [cnz_zero]; rfl, rfl, LP.start l n []⟩
  rintro k ρ' τ hk ⟨L, rfl, rfl, hL⟩
  by_cases hlt : k < ls.length
  · have hat := lls_at (List.getElem?_eq_getElem hlt)
    have hr := hlr _ (List.getElem_mem hlt)
    obtain ⟨hpw, hmem⟩ := hA k _ (List.getElem?_eq_getElem hlt)
    generalize ls[k] = lv at hat hr hpw hmem
    have hwk := wrap_nat hlt (show ls.length ≤ 9223372036854775807 by omega)
    simp -dsimp -implicitDefEqProofs only [aw, slots0, V.copy, V.lend, V.lend1, V.cells, V.boxable, over, bldV, boundV, rowsOf, plains, V.plain, Nat.reduceLeDiff, cond_true, cond_false, implies_true, eq_self, ne_eq, reduceIte, reduceCtorEq, Nat.reduceBEq, Nat.reduceLT, Nat.reduceEqDiff, Nat.reduceAdd, Nat.reduceSub, Nat.reduceMul, Int.ofNat_lt, List.length_map, hlt, decide_true]
    refine awp_forK [0, 1, 5, 7, 8, 9, 10] (fun (i : Nat) ρ υ => ∃ L, ρ = [(0, .d (dint n)), (1, .d (.sl (l.map fun p => [dint p.1, dint p.2]))), (5, .d (.sl (ls.map fun l => [dints (cst l)]))), (7, .bsl σ.length 0 n 1), (8, .d (dint (cnz L : Nat))), (9, vint .i64 k), (10, vint .i64 i)] ∧ υ = σ ++ [vis L] ∧ LP l n lv k i L) lv.length ⟨L, rfl, rfl, hL.lv lv⟩ ?_ _
    clear hL
    rintro i ρ' υ hi ⟨L, rfl, rfl, hL⟩
    have hdv : dints (cst lv) = .sl (irow lv) := rfl
    rw [hdv] at hat
    by_cases hil : i < lv.length
    · have hat2 := ints_at (cst_at hil)
      have e : lv[i]? = some (at0 lv i) := by unfold at0; rw [List.getElem?_eq_getElem hil]; rfl
      have hx := (hmem (at0 lv i)).1 (List.mem_of_getElem? e)
      have hst := hL.step hil hx.1 hx.2
      have hnot : at0 lv i ∉ lv.take i := fun h => by
        obtain ⟨j, hj, he⟩ := List.getElem_of_mem h
        have hj2 : j < i := by simp at hj; omega
        have h1 := List.pairwise_iff_getElem.1 hpw j i (by omega) hil hj2
        rw [List.getElem_take] at he
        rw [List.getElem?_eq_getElem hil] at e
        have := Option.some.inj e
        omega
      have h0 := hL.val _ hx.1 k hx.2
      rw [if_neg (Nat.lt_irrefl k), if_neg (fun h => hnot h.2)] at h0
      have hxl : at0 lv i < L.length := by rw [hL.len]; exact hx.1
      have hcz := cnz_set (y := k + 1) (by omega) h0 hxl
      have hpk := vis_pk hxl
      rw [h0] at hpk
      have hx1 := hx.1
      clear hx e hnot h0
      generalize at0 lv i = x at *
      have hvs := vis_set hxl (k + 1)
      have hwi := wrap_nat hil (show lv.length ≤ 9223372036854775807 by omega)
      have hcl := cnz_le (L.set x (k + 1))
      rw [List.length_set, hL.len, hcz] at hcl
      have hwt : IntKind.i64.wrap (((cnz L : Nat) : Int) + 1) = ((cnz L + 1 : Nat) : Int) := by rw [wrap_i64 (by omega) (by omega)]; omega
      have hng : ¬ ((x : Nat) : Int) < 0 := by omega
      have hng2 : ¬ ((x : Nat) : Int) ≥ ((n : Nat) : Int) := by omega
      have hxl1 : x + 1 ≤ L.length := hxl
      have hz0 : ((0 : Nat) : Int) = 0 := rfl
      simp -dsimp -implicitDefEqProofs only [aw, slots0, V.copy, V.lend, V.lend1, V.cells, V.boxable, over, bldV, boundV, rowsOf, plains, V.plain, Nat.reduceLeDiff, cond_true, cond_false, implies_true, eq_self, ne_eq, reduceIte, reduceCtorEq, Nat.reduceBEq, Nat.reduceLT, Nat.reduceEqDiff, Nat.reduceAdd, Nat.reduceSub, Nat.reduceMul, Int.ofNat_lt, List.length_map, hat, iaK_some, hil, decide_true, hat2, hng, hng2, decide_false, hx1, hxl1, Nat.mul_one, hpk, hz0, ne_eq, not_true_eq_false, hwk, hvs, hwt, hwi]
      exact Nxt.same (by simp) (bb_one hb _) (by simp [slotsBelow, V.under]) ⟨L.set x (k + 1), by rw [hcz], rfl, hst⟩
    · simp -dsimp -implicitDefEqProofs only [aw, slots0, V.copy, V.lend, V.lend1, V.cells, V.boxable, over, bldV, boundV, rowsOf, plains, V.plain, Nat.reduceLeDiff, cond_true, cond_false, implies_true, eq_self, ne_eq, reduceIte, reduceCtorEq, Nat.reduceBEq, Nat.reduceLT, Nat.reduceEqDiff, Nat.reduceAdd, Nat.reduceSub, Nat.reduceMul, Int.ofNat_lt, List.length_map, hat, iaK_some, hil, decide_false, hwk]
      have hil' : lv.length = i := by omega
      subst hil'
      exact ⟨hlt, Nxt.same (by simp) (bb_one hb _) (by simp [slotsBelow, V.under]) ⟨L, rfl, rfl, hL.next (fun v hv h => (hmem v).2 ⟨hv, h⟩) []⟩⟩
  · have hkl : ls.length = k := by omega
    subst hkl
    have hval : ∀ v, v < n → ∀ m, Lev (RL l) v m → at0 L v = m + 1 := fun v hv m hm => by
      obtain ⟨m', h1, h2⟩ := hB v hv
      have := hm.unique h2
      subst this
      rw [hL.val v hv m hm, if_pos h1]
    have hcn : cnz L = n := by
      rw [cnz_all (fun v hv => by
        rw [hL.len] at hv
        obtain ⟨m, -, hm⟩ := hB v hv
        rw [hval v hv m hm]; omega), hL.len]
    have hLl := hL.len
    clear hL
    rw [hcn]
    simp -dsimp -implicitDefEqProofs only [aw, slots0, V.copy, V.lend, V.lend1, V.cells, V.boxable, over, bldV, boundV, rowsOf, plains, V.plain, Nat.reduceLeDiff, cond_true, cond_false, implies_true, eq_self, ne_eq, reduceIte, reduceCtorEq, Nat.reduceBEq, Nat.reduceLT, Nat.reduceEqDiff, Nat.reduceAdd, Nat.reduceSub, Nat.reduceMul, Int.ofNat_lt, List.length_map, hlt, decide_false, decide_true, Bool.not_true]
    refine awp_forK [0, 1, 7, 11] (fun (v : Nat) ρ τ => ρ = [(0, .d (dint n)), (1, .d (.sl (l.map fun p => [dint p.1, dint p.2]))), (7, .bsl σ.length 0 n 1), (11, vint .i64 v)] ∧ τ = σ ++ [vis L]) n ⟨rfl, rfl⟩ ?_ _
    clear hk hlt
    rintro v ρ' τ hvn ⟨rfl, rfl⟩
    by_cases hlt : v < n
    · obtain ⟨m, hmls, hm⟩ := hB v hlt
      have hv1 := hval v hlt m hm
      have hvl : v < L.length := by omega
      have hpk := vis_pk hvl
      have hvl1 : v + 1 ≤ L.length := hvl
      have hd1 : decide (((at0 L v : Nat) : Int) = 1) = decide (at0 L v = 1) := by rw [Bool.eq_iff_iff]; simp; omega
      have hwv := wrap_nat hlt (show n ≤ 9223372036854775807 by omega)
      simp -dsimp -implicitDefEqProofs only [aw, slots0, V.copy, V.lend, V.lend1, V.cells, V.boxable, over, bldV, boundV, rowsOf, plains, V.plain, Nat.reduceLeDiff, cond_true, cond_false, implies_true, eq_self, ne_eq, reduceIte, reduceCtorEq, Nat.reduceBEq, Nat.reduceLT, Nat.reduceEqDiff, Nat.reduceAdd, Nat.reduceSub, Nat.reduceMul, Int.ofNat_lt, hlt, decide_true, hvl1, Nat.mul_one, hpk, hd1]
      refine awp_forK [0, 1, 7, 11, 12, 13] (fun (k : Nat) ρ υ => ρ = [(0, .d (dint n)), (1, .d (.sl (l.map fun p => [dint p.1, dint p.2]))), (7, .bsl σ.length 0 n 1), (11, vint .i64 v), (12, vbool (decide (at0 L v = 1) || (l.take k).any fun p => decide (p.2 = v) && decide (at0 L p.1 + 1 = at0 L v))), (13, vint .i64 k)] ∧ υ = σ ++ [vis L]) l.length ?_ ?_ _
      · exact ⟨by rw [List.take_zero, List.any_nil, Bool.or_false]; rfl, rfl⟩
      rintro k ρ' υ hk ⟨rfl, rfl⟩
      by_cases hkl : k < l.length
      · have hat : l[k]? = some l[k] := List.getElem?_eq_getElem hkl
        have hab := hp l[k].1 l[k].2 (List.getElem_mem hkl)
        have hrl : RL l l[k].1 l[k].2 := List.getElem_mem hkl
        have hany : (decide (at0 L v = 1) || (l.take (k + 1)).any fun p => decide (p.2 = v) && decide (at0 L p.1 + 1 = at0 L v)) = ((decide (at0 L v = 1) || (l.take k).any fun p => decide (p.2 = v) && decide (at0 L p.1 + 1 = at0 L v)) || (decide (l[k].2 = v) && decide (at0 L l[k].1 + 1 = at0 L v))) := by
          rw [List.take_add_one, hat, List.any_append, Bool.or_assoc]; simp
        have hwk := wrap_nat hkl (show l.length ≤ 9223372036854775807 by omega)
        generalize (decide (at0 L v = 1) || (l.take k).any fun p => decide (p.2 = v) && decide (at0 L p.1 + 1 = at0 L v)) = c at hany
        generalize l[k] = p at hat hab hrl hany
        obtain ⟨a, b⟩ := p
        obtain ⟨ha1, hb2⟩ := hab
        simp only at ha1 hb2 hrl hany
        by_cases hbv : b = v
        · subst hbv
          obtain ⟨ma, -, hma⟩ := hB a ha1
          have ha2 := hval a ha1 ma hma
          have hlt2 := lev_lt ⟨1, .one hrl⟩ hma hm
          have hpa := vis_pk (L := L) (n := a) (by omega)
          have hal1 : a + 1 ≤ L.length := by omega
          have hnge : ¬ ((at0 L a : Nat) : Int) ≥ ((at0 L b : Nat) : Int) := by omega
          have hwl : IntKind.i64.wrap (((at0 L b : Nat) : Int) - 1) = ((at0 L b : Nat) : Int) - 1 := wrap_i64 (by omega) (by omega)
          have hd2 : decide (((at0 L a : Nat) : Int) = ((at0 L b : Nat) : Int) - 1) = decide (at0 L a + 1 = at0 L b) := by rw [Bool.eq_iff_iff]; simp; omega
          rw [decide_eq_true rfl, Bool.true_and] at hany
          cases c
          · rw [Bool.false_or] at hany
            simp -dsimp -implicitDefEqProofs only [aw, slots0, V.copy, V.lend, V.lend1, V.cells, V.boxable, over, bldV, boundV, rowsOf, plains, V.plain, Nat.reduceLeDiff, cond_true, cond_false, implies_true, eq_self, ne_eq, reduceIte, reduceCtorEq, Nat.reduceBEq, Nat.reduceLT, Nat.reduceEqDiff, Nat.reduceAdd, Nat.reduceSub, Nat.reduceMul, Int.ofNat_lt, List.length_map, hkl, decide_true, decide_false, prs_at hat, iaK_some, ar0, ar1, abr0, abr1, Bool.not_true, ha1, hal1, hlt, hvl1, Nat.mul_one, hpa, hpk, hnge, hwl, hd2, hwk]
            exact Nxt.same (by simp) (bb_one hb _) (by simp [slotsBelow, V.under]) ⟨by rw [hany], rfl⟩
          · rw [Bool.true_or] at hany
            simp -dsimp -implicitDefEqProofs only [aw, slots0, V.copy, V.lend, V.lend1, V.cells, V.boxable, over, bldV, boundV, rowsOf, plains, V.plain, Nat.reduceLeDiff, cond_true, cond_false, implies_true, eq_self, ne_eq, reduceIte, reduceCtorEq, Nat.reduceBEq, Nat.reduceLT, Nat.reduceEqDiff, Nat.reduceAdd, Nat.reduceSub, Nat.reduceMul, Int.ofNat_lt, List.length_map, hkl, decide_true, decide_false, prs_at hat, iaK_some, ar0, ar1, abr0, abr1, Bool.not_true, ha1, hal1, hlt, hvl1, Nat.mul_one, hpa, hpk, hnge, hwk]
            exact Nxt.same (by simp) (bb_one hb _) (by simp [slotsBelow, V.under]) ⟨by rw [hany], rfl⟩
        · have hbv' : ¬ ((b : Nat) : Int) = ((v : Nat) : Int) := by omega
          rw [decide_eq_false hbv, Bool.false_and, Bool.or_false] at hany
          simp -dsimp -implicitDefEqProofs only [aw, slots0, V.copy, V.lend, V.lend1, V.cells, V.boxable, over, bldV, boundV, rowsOf, plains, V.plain, Nat.reduceLeDiff, cond_true, cond_false, implies_true, eq_self, ne_eq, reduceIte, reduceCtorEq, Nat.reduceBEq, Nat.reduceLT, Nat.reduceEqDiff, Nat.reduceAdd, Nat.reduceSub, Nat.reduceMul, Int.ofNat_lt, List.length_map, hkl, decide_true, decide_false, prs_at hat, iaK_some, ar0, ar1, abr0, abr1, hbv', Bool.not_false, hwk]
          exact Nxt.same (by simp) (bb_one hb _) (by simp [slotsBelow, V.under]) ⟨by rw [hany], rfl⟩
      · rw [List.take_of_length_le (Nat.le_of_not_lt hkl)]
        have hcl : (decide (at0 L v = 1) || l.any fun p => decide (p.2 = v) && decide (at0 L p.1 + 1 = at0 L v)) = true := by
          by_cases h0 : m = 0
          · rw [decide_eq_true (by omega)]; rfl
          · obtain ⟨u, h1, h2⟩ := lev_prev hm h0
            have h3 := hval u (hp _ _ h1).1 _ h2
            rw [Bool.or_eq_true, List.any_eq_true]
            exact .inr ⟨(u, v), h1, by simp; omega⟩
        rw [hcl]
        simp -dsimp -implicitDefEqProofs only [aw, slots0, V.copy, V.lend, V.lend1, V.cells, V.boxable, over, bldV, boundV, rowsOf, plains, V.plain, Nat.reduceLeDiff, cond_true, cond_false, implies_true, eq_self, ne_eq, reduceIte, reduceCtorEq, Nat.reduceBEq, Nat.reduceLT, Nat.reduceEqDiff, Nat.reduceAdd, Nat.reduceSub, Nat.reduceMul, Int.ofNat_lt, List.length_map, hkl, decide_false, Bool.not_true, hwv]
        exact ⟨hlt, Nxt.same (by simp) (bb_one hb _) (by simp [slotsBelow, V.under]) ⟨rfl, rfl⟩⟩
    · simp -dsimp -implicitDefEqProofs only [aw, slots0, V.copy, V.lend, V.lend1, V.cells, V.boxable, over, bldV, boundV, rowsOf, plains, V.plain, Nat.reduceLeDiff, cond_true, cond_false, implies_true, eq_self, ne_eq, reduceIte, reduceCtorEq, Nat.reduceBEq, Nat.reduceLT, Nat.reduceEqDiff, Nat.reduceAdd, Nat.reduceSub, Nat.reduceMul, Int.ofNat_lt, hlt, decide_false]
      refine fun_ret (awake_fun _) ?_
      simp -dsimp -implicitDefEqProofs only [aw, slots0, V.copy, V.lend, V.lend1, V.cells, V.boxable, over, bldV, boundV, rowsOf, plains, V.plain, Nat.reduceLeDiff, cond_true, cond_false, implies_true, eq_self, ne_eq, reduceIte, reduceCtorEq, Nat.reduceBEq, Nat.reduceLT, Nat.reduceEqDiff, Nat.reduceAdd, Nat.reduceSub, Nat.reduceMul]
      first | exact fin_ret hb rfl rfl List.take_length ⟨rfl, rfl⟩ | exact fin_ret hb rfl rfl List.take_left ⟨rfl, rfl⟩ | (trace_state; fail "fin")
theorem levels_law (n : Int) (l : Rw) (σ : List (List V)) : Fun G 4 [.d (dint n), .d (drel l)] σ (RetV (vbool true) σ) := by
  cases hf : fewB n l
  · refine fun_code Try.func4 k4 rfl fun hb hw => ?_
    unfold c4
    simp -dsimp -implicitDefEqProofs only [aw, slots0, V.copy, V.lend, V.lend1, V.cells, V.boxable, over, bldV, boundV, rowsOf, plains, V.plain, Nat.reduceLeDiff, cond_true, cond_false, implies_true, eq_self, ne_eq, reduceIte, reduceCtorEq, Nat.reduceBEq, Nat.reduceLT, Nat.reduceEqDiff, Nat.reduceAdd, Nat.reduceSub, Nat.reduceMul]
    refine fun_ret (few_fun n l _) ?_
    rw [hf]
    simp -dsimp -implicitDefEqProofs only [aw, slots0, V.copy, V.lend, V.lend1, V.cells, V.boxable, over, bldV, boundV, rowsOf, plains, V.plain, Nat.reduceLeDiff, cond_true, cond_false, implies_true, eq_self, ne_eq, reduceIte, reduceCtorEq, Nat.reduceBEq, Nat.reduceLT, Nat.reduceEqDiff, Nat.reduceAdd, Nat.reduceSub, Nat.reduceMul]
    refine fun_ret (awake_fun _) ?_
    simp -dsimp -implicitDefEqProofs only [aw, slots0, V.copy, V.lend, V.lend1, V.cells, V.boxable, over, bldV, boundV, rowsOf, plains, V.plain, Nat.reduceLeDiff, cond_true, cond_false, implies_true, eq_self, ne_eq, reduceIte, reduceCtorEq, Nat.reduceBEq, Nat.reduceLT, Nat.reduceEqDiff, Nat.reduceAdd, Nat.reduceSub, Nat.reduceMul]
    first | exact fin_ret hb rfl rfl List.take_length ⟨rfl, rfl⟩ | exact fin_ret hb rfl rfl List.take_left ⟨rfl, rfl⟩ | (trace_state; fail "fin")
  have hlen := few_len hf
  cases hv : validR n l
  · exact levels_err 1 n l hf (by decide) (fun σ => lev_no n l (by omega) hv σ) σ
  obtain ⟨m, p, rfl, hm, hdr, hpl, rfl, hp⟩ := valid_prs hv
  have ha := fun σ => lev_fun m p hm hp (by omega) hv σ
  rcases lev_both hp with ⟨-, hac, e1, -⟩ | ⟨ls, hls, hac, e1, -, g1, g2⟩
  · rw [e1, ← hdr] at ha
    exact levels_err 10 _ _ hf (by decide) ha σ
  · rw [e1] at ha
    rw [hdr]
    rcases lvls_spec hp m 0 (List.range m) (LI.start m) (by simp) with ⟨-, h⟩ | ⟨ls', h1, -, h3, h4⟩
    · exact absurd hac h
    · rw [hls] at h1
      have := Option.some.inj h1
      subst this
      refine levels_ok m p hm hp (by rw [List.length_map] at hlen; exact hlen) ls g1 g2 (fun j lv hj => ?_) (fun i hi => ?_) hf hv ha σ
      · obtain ⟨-, k1, k2⟩ := h3 j lv hj
        exact ⟨k1, fun i => by rw [k2 i, Nat.zero_add]⟩
      · obtain ⟨t, k1, k2⟩ := h4 i hi
        exact ⟨t, by omega, k2⟩
end Go.Proofs.Ytinenohgemndiaa
