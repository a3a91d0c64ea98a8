/-
  The reference's levels and distances.
-/
import Derived.Test.YtinenohgemndiaaGv5
set_option linter.unusedVariables false
set_option linter.unusedSimpArgs false
set_option linter.unusedSectionVars false
namespace Go.Proofs.Ytinenohgemndiaa
open Go.RowKit
abbrev vis (L : List Nat) : List V := L.map fun x : Nat => V.d (dint (x : Int))
theorem vis_set {L : List Nat} {n : Nat} (h : n < L.length) (x : Nat) : List.take n (vis L) ++ (V.d (dint x) :: List.drop (n + 1) (vis L)) = vis (L.set n x) := by
  unfold vis
  rw [List.set_eq_take_append_cons_drop, if_pos h, List.map_append, List.map_cons, List.map_take, List.map_drop]
theorem vis_pk {L : List Nat} {n : Nat} (h : n < L.length) : packV false (List.take 1 (List.drop n (vis L))) = some (V.d (dint (at0 L n : Nat))) := pk_at (c := V.d (dint (at0 L n : Nat))) (by
  rw [List.getElem?_map, List.getElem?_eq_getElem h]; unfold at0; rw [List.getElem?_eq_getElem h]; rfl)
theorem vis_unders (k : Nat) (L : List Nat) : V.unders k (vis L) = true := V.unders_of fun i hi => by rw [List.getElem_map]; rfl
theorem vis_rep (n : Nat) : List.replicate n (V.d (.lit (.int .i64 0))) = vis (List.replicate n 0) := by simp [vis]
theorem rlxs_succ (l : Prs) : ∀ (k : Nat) (lv : List Nat), rlxs l (k + 1) lv = rlx l (rlxs l k lv)
  | 0, lv => rfl
  | k + 1, lv => by rw [rlxs, rlxs_succ l k]; rfl
theorem rst_le {lv : List Nat} {p : Nat × Nat} {c : Nat} (h : ∀ x, at0 lv x ≤ c) (hp : p.2 < lv.length) : ∀ x, at0 (rst lv p) x ≤ c + 1 := fun x => by
  unfold rst
  split
  · rw [at0_set hp]
    split
    · have := h p.1; omega
    · have := h x; omega
  · have := h x; omega
theorem rst_len (lv : List Nat) (p : Nat × Nat) : (rst lv p).length = lv.length := by unfold rst; split <;> simp
theorem bb_one {σ : List (List V)} (h : boxesBelow σ.length σ = true) (L : List Nat) : boxesBelow (σ ++ [vis L]).length (σ ++ [vis L]) = true := bb_push h _ fun c hc => by rw [List.mem_singleton.1 hc]; exact vis_unders _ _
def dlls (ls : List (List Nat)) : D := .sl (ls.map fun l => [dints (cst l)])
def lvl1 (n : Nat) (lv : List Nat) (k : Nat) : List Nat := (List.range n).filter fun i => at0 lv i == k
theorem filter_range_succ (p : Nat → Bool) (i : Nat) : (List.range (i + 1)).filter p = (List.range i).filter p ++ (if p i then [i] else []) := by
  rw [List.range_succ, List.filter_append]; congr 1; simp only [List.filter_cons, List.filter_nil]
theorem filter_range_len (p : Nat → Bool) (i : Nat) : ((List.range i).filter p).length ≤ i := by
  have := List.length_filter_le p (List.range i); simpa using this
def levE (n : Nat) (l : Prs) : V := if roundB n (clo n l) = true then .tup [.d (.sl []), .d (dint 10)] else .tup [.d (dlls (rlevels n (rlxs l n (List.replicate n 0)))), .d (dint 0)]
theorem reflev_no (n : Int) (l : Rw) (hl : l.length ≤ 1000000) (hv : validR n l = false) (σ : List (List V)) : Fun G 12 [.d (dint n), .d (drel l)] σ (RetV (.tup [.d (.sl []), .d (dint 1)]) σ) := by
  refine fun_code Try.func12 k12 rfl fun hb hw => ?_
  unfold c12
  simp -dsimp -implicitDefEqProofs only [aw, slots0, V.copy, V.lend, V.lend1, V.cells, V.boxable, over, bldV, boundV, rowsOf, plains, V.plain, Nat.reduceLeDiff, cond_true, cond_false, implies_true, eq_self, ne_eq, reduceIte, reduceCtorEq, Nat.reduceBEq, Nat.reduceLT, Nat.reduceEqDiff, Nat.reduceAdd, Nat.reduceSub, Nat.reduceMul]
  refine fun_ret (wrong_no n l hl hv _) ?_
  simp -dsimp -implicitDefEqProofs only [aw, slots0, V.copy, V.lend, V.lend1, V.cells, V.boxable, over, bldV, boundV, rowsOf, plains, V.plain, Nat.reduceLeDiff, cond_true, cond_false, implies_true, eq_self, ne_eq, reduceIte, reduceCtorEq, Nat.reduceBEq, Nat.reduceLT, Nat.reduceEqDiff, Nat.reduceAdd, Nat.reduceSub, Nat.reduceMul, Int.reduceEq, decide_true, decide_false]
  exact fin_ret hb (v := .tup _) rfl rfl List.take_length ⟨rfl, rfl⟩
theorem rlevels_succ (n k : Nat) (lv : List Nat) : (((List.range (k + 1)).map (lvl1 n lv)).filter fun l => !l.isEmpty) = (((List.range k).map (lvl1 n lv)).filter fun l => !l.isEmpty) ++ (if (lvl1 n lv k).length = 0 then [] else [lvl1 n lv k]) := by
  rw [List.range_succ, List.map_append, List.filter_append]
  congr 1
  simp only [List.map_cons, List.map_nil, List.filter_cons, List.filter_nil]
  cases lvl1 n lv k <;> simp
set_option maxHeartbeats 4000000 in
theorem reflev_fun (n : Nat) (l : Prs) (hn : n ≤ 64) (hl : ∀ a b, RL l a b → a < n ∧ b < n) (hll : l.length ≤ 1000000) (hv : validR n (l.map fun q => ((q.1 : Int), (q.2 : Int))) = true) (σ : List (List V)) : Fun G 12 [.d (dint n), .d (dprs l)] σ (RetV (levE n l) σ) := by
  refine fun_code Try.func12 k12 rfl fun hb hw => ?_
  unfold c12
  simp -dsimp -implicitDefEqProofs only [aw, slots0, V.copy, V.lend, V.lend1, V.cells, V.boxable, over, bldV, boundV, rowsOf, plains, V.plain, Nat.reduceLeDiff, cond_true, cond_false, implies_true, eq_self, ne_eq, reduceIte, reduceCtorEq, Nat.reduceBEq, Nat.reduceLT, Nat.reduceEqDiff, Nat.reduceAdd, Nat.reduceSub, Nat.reduceMul]
  refine fun_ret (wrong_fun n l hn hl hll hv _) ?_
  unfold levE wrongN
  cases hro : roundB n (clo n l)
  case true =>
    simp only [if_true]
    simp -dsimp -implicitDefEqProofs only [aw, slots0, V.copy, V.lend, V.lend1, V.cells, V.boxable, over, bldV, boundV, rowsOf, plains, V.plain, Nat.reduceLeDiff, cond_true, cond_false, implies_true, eq_self, ne_eq, reduceIte, reduceCtorEq, Nat.reduceBEq, Nat.reduceLT, Nat.reduceEqDiff, Nat.reduceAdd, Nat.reduceSub, Nat.reduceMul, Int.reduceEq, decide_true, decide_false]
    exact fin_ret hb (v := .tup _) rfl rfl List.take_length ⟨rfl, rfl⟩
  simp only [Bool.false_eq_true, if_false]
  have hi1 : (0 : Int) ≤ ((n : Nat) : Int) ∧ ((n : Nat) : Int) * ((8 : Nat) : Int) ≤ 140737488355328 := by omega
  simp -dsimp -implicitDefEqProofs only [aw, slots0, V.copy, V.lend, V.lend1, V.cells, V.boxable, over, bldV, boundV, rowsOf, plains, V.plain, Nat.reduceLeDiff, cond_true, cond_false, implies_true, eq_self, ne_eq, reduceIte, reduceCtorEq, Nat.reduceBEq, Nat.reduceLT, Nat.reduceEqDiff, Nat.reduceAdd, Nat.reduceSub, Nat.reduceMul, Int.reduceEq, decide_true, decide_false, hi1, Int.toNat_natCast, vis_rep]
  refine awp_forK [0, 1, 7, 8] (fun (k : Nat) ρ σ' => ρ = [(0, .d (dint n)), (1, .d (dprs l)), (7, .bsl σ.length 0 n 1), (8, vint .i64 k)] ∧ σ' = σ ++ [vis (rlxs l k (List.replicate n 0))] ∧ (rlxs l k (List.replicate n 0)).length = n ∧ ∀ x, at0 (rlxs l k (List.replicate n 0)) x ≤ k * l.length) n ⟨rfl, rfl, by simp [rlxs], fun x => by simp [rlxs, at0_zero]⟩ ?_ _
  rintro k ρ' σ' hk' ⟨rfl, rfl, hlen, hbd⟩
  by_cases hk : k < n
  · have hs := rlxs_succ l k (List.replicate n 0)
    generalize rlxs l k (List.replicate n 0) = lv at hlen hbd hs
    simp -dsimp -implicitDefEqProofs only [aw, slots0, V.copy, V.lend, V.lend1, V.cells, V.boxable, over, bldV, boundV, rowsOf, plains, V.plain, Nat.reduceLeDiff, cond_true, cond_false, implies_true, eq_self, ne_eq, reduceIte, reduceCtorEq, Nat.reduceBEq, Nat.reduceLT, Nat.reduceEqDiff, Nat.reduceAdd, Nat.reduceSub, Nat.reduceMul, Int.ofNat_lt, hk, decide_true]
    refine awp_forK [0, 1, 7, 8, 9] (fun (j : Nat) ρ σ' => ρ = [(0, .d (dint n)), (1, .d (dprs l)), (7, .bsl σ.length 0 n 1), (8, vint .i64 k), (9, vint .i64 j)] ∧ σ' = σ ++ [vis ((l.take j).foldl rst lv)] ∧ ((l.take j).foldl rst lv).length = n ∧ ∀ x, at0 ((l.take j).foldl rst lv) x ≤ k * l.length + j) l.length ⟨rfl, rfl, hlen, hbd⟩ ?_ _
    rintro j ρ' σ' hj ⟨rfl, rfl, hlen2, hbd2⟩
    by_cases hlt : j < l.length
    · have hat : l[j]? = some l[j] := List.getElem?_eq_getElem hlt
      have hab := hl l[j].1 l[j].2 (List.getElem_mem hlt)
      have hfold := foldl_take rst lv hlt
      generalize (l.take j).foldl rst lv = lw at hlen2 hbd2 hfold
      generalize l[j] = p at hat hab hfold
      obtain ⟨a, b⟩ := p
      obtain ⟨ha, hb2⟩ := hab
      simp only at ha hb2
      have hle := rst_le (p := (a, b)) hbd2 (by rw [hlen2]; exact hb2)
      have hrl := rst_len lw (a, b)
      rw [← hfold] at hle hrl
      have pa := vis_pk (L := lw) (n := a) (by omega)
      have pb := vis_pk (L := lw) (n := b) (by omega)
      have la : a + 1 ≤ lw.length := by omega
      have lb : b + 1 ≤ lw.length := by omega
      have hb64 : k * l.length + j ≤ 64 * 1000000 + 1000000 := by
        have := Nat.mul_le_mul (show k ≤ 64 by omega) hll; omega
      have hba := hbd2 a
      have hw : IntKind.i64.wrap ((at0 lw a : Int) + 1) = ((at0 lw a + 1 : Nat) : Int) := by rw [wrap_i64 (by omega) (by omega)]; omega
      by_cases hc : at0 lw b ≤ at0 lw a
      · have he : rst lw (a, b) = lw.set b (at0 lw a + 1) := if_pos hc
        have hci : ((at0 lw b : Nat) : Int) ≤ ((at0 lw a : Nat) : Int) := by omega
        simp -dsimp -implicitDefEqProofs only [aw, slots0, V.copy, V.lend, V.lend1, V.cells, V.boxable, over, bldV, boundV, rowsOf, plains, V.plain, Nat.reduceLeDiff, cond_true, cond_false, implies_true, eq_self, ne_eq, reduceIte, reduceCtorEq, Nat.reduceBEq, Nat.reduceLT, Nat.reduceEqDiff, Nat.reduceAdd, Nat.reduceSub, Nat.reduceMul, Int.ofNat_lt, hlt, decide_true, dprs_eq, prs_at hat, iaK_some, abr0, abr1, ha, hb2, pa, pb, la, lb, Nat.mul_one, hci, hw, vis_set (lt_pos lb), wrap_nat hlt (show l.length ≤ 9223372036854775807 by omega)]
        exact Nxt.same (by simp) (bb_one hb _) (by simp [slotsBelow, V.under]) ⟨by rw [dprs_eq], by rw [hfold, he], by rw [hrl]; exact hlen2, fun x => by have := hle x; omega⟩
      · have he : rst lw (a, b) = lw := if_neg hc
        have hci : ¬ ((at0 lw b : Nat) : Int) ≤ ((at0 lw a : Nat) : Int) := by omega
        simp -dsimp -implicitDefEqProofs only [aw, slots0, V.copy, V.lend, V.lend1, V.cells, V.boxable, over, bldV, boundV, rowsOf, plains, V.plain, Nat.reduceLeDiff, cond_true, cond_false, implies_true, eq_self, ne_eq, reduceIte, reduceCtorEq, Nat.reduceBEq, Nat.reduceLT, Nat.reduceEqDiff, Nat.reduceAdd, Nat.reduceSub, Nat.reduceMul, Int.ofNat_lt, hlt, decide_true, dprs_eq, prs_at hat, iaK_some, abr0, abr1, ha, hb2, pa, pb, la, lb, Nat.mul_one, hci, decide_false, wrap_nat hlt (show l.length ≤ 9223372036854775807 by omega)]
        exact Nxt.same (by simp) (bb_one hb _) (by simp [slotsBelow, V.under]) ⟨by rw [dprs_eq], by rw [hfold, he], by rw [hrl]; exact hlen2, fun x => by have := hle x; omega⟩
    · simp -dsimp -implicitDefEqProofs only [aw, slots0, V.copy, V.lend, V.lend1, V.cells, V.boxable, over, bldV, boundV, rowsOf, plains, V.plain, Nat.reduceLeDiff, cond_true, cond_false, implies_true, eq_self, ne_eq, reduceIte, reduceCtorEq, Nat.reduceBEq, Nat.reduceLT, Nat.reduceEqDiff, Nat.reduceAdd, Nat.reduceSub, Nat.reduceMul, Int.ofNat_lt, hlt, decide_false, dprs_eq, wrap_nat hk (show n ≤ 9223372036854775807 by omega)]
      rw [List.take_of_length_le (by omega)] at hlen2 hbd2 ⊢
      exact ⟨hk, Nxt.same (by simp) (bb_one hb _) (by simp [slotsBelow, V.under]) ⟨by rw [dprs_eq], by rw [hs]; rfl, by rw [hs]; exact hlen2, fun x => by have := hbd2 x; rw [hs, Nat.add_mul]; show at0 (l.foldl rst lv) x ≤ _; omega⟩⟩
  · have e : n = k := by omega
    subst e
    simp -dsimp -implicitDefEqProofs only [aw, slots0, V.copy, V.lend, V.lend1, V.cells, V.boxable, over, bldV, boundV, rowsOf, plains, V.plain, Nat.reduceLeDiff, cond_true, cond_false, implies_true, eq_self, ne_eq, reduceIte, reduceCtorEq, Nat.reduceBEq, Nat.reduceLT, Nat.reduceEqDiff, Nat.reduceAdd, Nat.reduceSub, Nat.reduceMul, Int.ofNat_lt, Nat.lt_irrefl, decide_false]
    clear hbd hk hk'
    generalize rlxs l n (List.replicate n 0) = lv at hlen
    refine awp_forK [0, 7, 10, 11] (fun (k : Nat) ρ σ' => ∃ cur : List (List Nat), ρ = [(0, .d (dint n)), (7, .bsl σ.length 0 n 1), (10, .own 30 1 (cur.map fun l => [dints (cst l)])), (11, vint .i64 k)] ∧ σ' = σ ++ [vis lv] ∧ cur = (((List.range k).map (lvl1 n lv)).filter fun l => !l.isEmpty) ∧ cur.length ≤ k) n ⟨[], rfl, rfl, rfl, Nat.le_refl _⟩ ?_ _
    rintro k ρ' σ' hk' ⟨cur, rfl, rfl, hcur, hcl⟩
    by_cases hk : k < n
    · simp -dsimp -implicitDefEqProofs only [aw, slots0, V.copy, V.lend, V.lend1, V.cells, V.boxable, over, bldV, boundV, rowsOf, plains, V.plain, Nat.reduceLeDiff, cond_true, cond_false, implies_true, eq_self, ne_eq, reduceIte, reduceCtorEq, Nat.reduceBEq, Nat.reduceLT, Nat.reduceEqDiff, Nat.reduceAdd, Nat.reduceSub, Nat.reduceMul, Int.ofNat_lt, hk, decide_true]
      refine awp_forK [0, 7, 10, 11, 12, 13] (fun (i : Nat) ρ σ' => ρ = [(0, .d (dint n)), (7, .bsl σ.length 0 n 1), (10, .own 30 1 (cur.map fun l => [dints (cst l)])), (11, vint .i64 k), (12, .own 3 1 ((cst ((List.range i).filter fun i => at0 lv i == k)).map fun x => [dint x])), (13, vint .i64 i)] ∧ σ' = σ ++ [vis lv]) n ⟨rfl, rfl⟩ ?_ _
      rintro i ρ' σ' hi' ⟨rfl, rfl⟩
      by_cases hi : i < n
      · have pa := vis_pk (L := lv) (n := i) (by omega)
        have la : i + 1 ≤ lv.length := by omega
        have hfs := filter_range_succ (fun i => at0 lv i == k) i
        have hfl := filter_range_len (fun i => at0 lv i == k) i
        by_cases hc : at0 lv i = k
        · have hci : ((at0 lv i : Nat) : Int) = ((k : Nat) : Int) := by omega
          rw [if_pos (by simpa using hc)] at hfs
          simp -dsimp -implicitDefEqProofs only [aw, slots0, V.copy, V.lend, V.lend1, V.cells, V.boxable, over, bldV, boundV, rowsOf, plains, V.plain, Nat.reduceLeDiff, cond_true, cond_false, implies_true, eq_self, ne_eq, reduceIte, reduceCtorEq, Nat.reduceBEq, Nat.reduceLT, Nat.reduceEqDiff, Nat.reduceAdd, Nat.reduceSub, Nat.reduceMul, Int.ofNat_lt, hi, decide_true, iaK_some, pa, la, Nat.mul_one, hci, eq_self]
          refine onT_intro (by first | omega | (simp; omega)) ?_
          simp -dsimp -implicitDefEqProofs only [aw, slots0, V.copy, V.lend, V.lend1, V.cells, V.boxable, over, bldV, boundV, rowsOf, plains, V.plain, Nat.reduceLeDiff, cond_true, cond_false, implies_true, eq_self, ne_eq, reduceIte, reduceCtorEq, Nat.reduceBEq, Nat.reduceLT, Nat.reduceEqDiff, Nat.reduceAdd, Nat.reduceSub, Nat.reduceMul, wrap_nat hi (show n ≤ 9223372036854775807 by omega)]
          exact ⟨hi, Nxt.same (by simp) (bb_one hb _) (by simp [slotsBelow, V.under]) ⟨by rw [hfs]; simp, rfl⟩⟩
        · have hci : ¬ ((at0 lv i : Nat) : Int) = ((k : Nat) : Int) := by omega
          rw [if_neg (by simpa using hc), List.append_nil] at hfs
          simp -dsimp -implicitDefEqProofs only [aw, slots0, V.copy, V.lend, V.lend1, V.cells, V.boxable, over, bldV, boundV, rowsOf, plains, V.plain, Nat.reduceLeDiff, cond_true, cond_false, implies_true, eq_self, ne_eq, reduceIte, reduceCtorEq, Nat.reduceBEq, Nat.reduceLT, Nat.reduceEqDiff, Nat.reduceAdd, Nat.reduceSub, Nat.reduceMul, Int.ofNat_lt, hi, decide_true, iaK_some, pa, la, Nat.mul_one, hci, decide_false, wrap_nat hi (show n ≤ 9223372036854775807 by omega)]
          exact Nxt.same (by simp) (bb_one hb _) (by simp [slotsBelow, V.under]) ⟨by rw [hfs], rfl⟩
      · have e : n = i := by omega
        subst e
        have hls := rlevels_succ n k lv
        have hl1 : ((List.range n).filter fun i => at0 lv i == k) = lvl1 n lv k := rfl
        rw [hl1]
        generalize lvl1 n lv k = lk at hls
        by_cases hz : lk.length = 0
        · have hz' : ¬ (0 : Int) < ((lk.length : Nat) : Int) := by omega
          rw [if_pos hz, List.append_nil] at hls
          simp -dsimp -implicitDefEqProofs only [aw, slots0, V.copy, V.lend, V.lend1, V.cells, V.boxable, over, bldV, boundV, rowsOf, plains, V.plain, Nat.reduceLeDiff, cond_true, cond_false, implies_true, eq_self, ne_eq, reduceIte, reduceCtorEq, Nat.reduceBEq, Nat.reduceLT, Nat.reduceEqDiff, Nat.reduceAdd, Nat.reduceSub, Nat.reduceMul, Int.ofNat_lt, Nat.lt_irrefl, decide_false, hz', wrap_nat hk (show n ≤ 9223372036854775807 by omega)]
          exact ⟨hk, Nxt.same (by simp) (bb_one hb _) (by simp [slotsBelow, V.under]) ⟨cur, rfl, rfl, by rw [hls]; exact hcur, by omega⟩⟩
        · have hz' : (0 : Int) < ((lk.length : Nat) : Int) := by omega
          rw [if_neg hz] at hls
          simp -dsimp -implicitDefEqProofs only [aw, slots0, V.copy, V.lend, V.lend1, V.cells, V.boxable, over, bldV, boundV, rowsOf, plains, V.plain, Nat.reduceLeDiff, cond_true, cond_false, implies_true, eq_self, ne_eq, reduceIte, reduceCtorEq, Nat.reduceBEq, Nat.reduceLT, Nat.reduceEqDiff, Nat.reduceAdd, Nat.reduceSub, Nat.reduceMul, Int.ofNat_lt, Nat.lt_irrefl, decide_false, hz', decide_true]
          refine onT_intro (by omega) ?_
          simp -dsimp -implicitDefEqProofs only [aw, slots0, V.copy, V.lend, V.lend1, V.cells, V.boxable, over, bldV, boundV, rowsOf, plains, V.plain, Nat.reduceLeDiff, cond_true, cond_false, implies_true, eq_self, ne_eq, reduceIte, reduceCtorEq, Nat.reduceBEq, Nat.reduceLT, Nat.reduceEqDiff, Nat.reduceAdd, Nat.reduceSub, Nat.reduceMul, wrap_nat hk (show n ≤ 9223372036854775807 by omega)]
          exact ⟨hk, Nxt.same (by simp) (bb_one hb _) (by simp [slotsBelow, V.under]) ⟨cur ++ [lk], by simp [dints], rfl, by rw [hls, hcur], by simp; omega⟩⟩
    · have e : n = k := by omega
      subst e
      simp -dsimp -implicitDefEqProofs only [aw, slots0, V.copy, V.lend, V.lend1, V.cells, V.boxable, over, bldV, boundV, rowsOf, plains, V.plain, Nat.reduceLeDiff, cond_true, cond_false, implies_true, eq_self, ne_eq, reduceIte, reduceCtorEq, Nat.reduceBEq, Nat.reduceLT, Nat.reduceEqDiff, Nat.reduceAdd, Nat.reduceSub, Nat.reduceMul, Int.ofNat_lt, Nat.lt_irrefl, decide_false]
      rw [show rlevels n lv = cur from hcur.symm]
      exact fin_ret hb (v := .tup _) rfl rfl List.take_left ⟨rfl, rfl⟩
end Go.Proofs.Ytinenohgemndiaa
