/-
  The reference's distances and cycle.
-/
import Derived.Test.YtinenohgemndiaaGv6
set_option linter.unusedVariables false
set_option linter.unusedSimpArgs false
set_option linter.unusedSectionVars false
namespace Go.Proofs.Ytinenohgemndiaa
open Go.RowKit
theorem dsts_succ (l : Prs) : ∀ (k : Nat) (lv : List Nat), dsts l (k + 1) lv = l.foldl dst1 (dsts l k lv)
  | 0, lv => rfl
  | k + 1, lv => by rw [dsts, dsts_succ l k]; rfl
theorem dst1_le {lv : List Nat} {p : Nat × Nat} {c : Nat} (h : ∀ x, at0 lv x ≤ c) (hp : p.1 < lv.length) : ∀ x, at0 (dst1 lv p) x ≤ c := fun x => by
  unfold dst1
  split
  · rw [at0_set hp]
    split
    · have := h p.1; omega
    · exact h x
  · exact h x
theorem dst1_len (lv : List Nat) (p : Nat × Nat) : (dst1 lv p).length = lv.length := by unfold dst1; split <;> simp
theorem vis_frz {σ : List (List V)} {k i : Nat} {L : List Nat} (hi : k ≤ i) (hc : σ[i]? = some (vis L)) : FrzV σ k (.bsl i 0 L.length 1) (.d (dints (cst L))) := by
  refine .d (.bsl i 0 L.length 1 (vis L) _ hi hc (by simp) (fun r hr => ?_) (by simp) (fun r j hr hj => ?_))
  · obtain ⟨b, -, rfl⟩ := List.mem_map.1 hr; rfl
  · have hr' : r < L.length := by simpa using hr
    have hj0 : j = 0 := by simpa using hj
    subst hj0
    simp only [List.getElem_map, List.getElem_cons_zero, Nat.zero_add, Nat.mul_one, Nat.add_zero]
    rw [List.getD_eq_getElem?_getD, List.getElem?_map, List.getElem?_eq_getElem hr', Option.map_some, Option.getD_some]
    exact .d _
theorem set_full (n j x : Nat) (h : j < n) : (List.replicate j x ++ List.replicate (n - j) 0).set j x = List.replicate (j + 1) x ++ List.replicate (n - (j + 1)) 0 := by
  obtain ⟨m, hm⟩ : ∃ m, n - j = m + 1 := ⟨n - j - 1, by omega⟩
  rw [hm, show n - (j + 1) = m by omega, List.set_append_right _ _ (by simp), List.length_replicate, Nat.sub_self, List.replicate_succ, List.set_cons_zero, List.replicate_succ', List.append_assoc]
  rfl
def dist0 (n f : Nat) : List Nat := (List.replicate n (n + 1)).set f 0
set_option maxHeartbeats 4000000 in
theorem refdist_fun (n f : Nat) (l : Prs) (hn : n ≤ 64) (hf : f < n) (hl : ∀ a b, RL l a b → a < n ∧ b < n) (hll : l.length ≤ 1000000) (σ : List (List V)) : Fun G 33 [.d (dint n), .d (dprs l), .d (dint f)] σ (RetV (.d (dints (cst (dsts l n (dist0 n f))))) σ) := by
  refine fun_code Try.func33 k33 rfl fun hb hw => ?_
  unfold c33
  have hi1 : (0 : Int) ≤ ((n : Nat) : Int) ∧ ((n : Nat) : Int) * ((8 : Nat) : Int) ≤ 140737488355328 := by omega
  have hn1 : IntKind.i64.wrap ((n : Int) + 1) = ((n + 1 : Nat) : Int) := by rw [wrap_i64 (by omega) (by omega)]; omega
  simp -dsimp -implicitDefEqProofs only [aw, slots0, V.copy, V.lend, V.lend1, V.cells, V.boxable, over, bldV, boundV, rowsOf, plains, V.plain, Nat.reduceLeDiff, cond_true, cond_false, implies_true, eq_self, ne_eq, reduceIte, reduceCtorEq, Nat.reduceBEq, Nat.reduceLT, Nat.reduceEqDiff, Nat.reduceAdd, Nat.reduceSub, Nat.reduceMul, hi1, Int.toNat_natCast, vis_rep]
  refine awp_forK [0, 1, 2, 7, 8] (fun (j : Nat) ρ σ' => ρ = [(0, .d (dint n)), (1, .d (dprs l)), (2, .d (dint f)), (7, .bsl σ.length 0 n 1), (8, vint .i64 j)] ∧ σ' = σ ++ [vis (List.replicate j (n + 1) ++ List.replicate (n - j) 0)]) n ⟨rfl, by simp⟩ ?_ _
  rintro j ρ' σ' hj ⟨rfl, rfl⟩
  by_cases hlt : j < n
  · have hset := set_full n j (n + 1) hlt
    have hL : j + 1 ≤ (List.replicate j (n + 1) ++ List.replicate (n - j) 0).length := by simp; omega
    generalize List.replicate j (n + 1) ++ List.replicate (n - j) 0 = L at hset hL
    simp -dsimp -implicitDefEqProofs only [aw, slots0, V.copy, V.lend, V.lend1, V.cells, V.boxable, over, bldV, boundV, rowsOf, plains, V.plain, Nat.reduceLeDiff, cond_true, cond_false, implies_true, eq_self, ne_eq, reduceIte, reduceCtorEq, Nat.reduceBEq, Nat.reduceLT, Nat.reduceEqDiff, Nat.reduceAdd, Nat.reduceSub, Nat.reduceMul, Int.ofNat_lt, hlt, decide_true, hL, Nat.mul_one, hn1, vis_set (lt_pos hL), wrap_nat hlt (show n ≤ 9223372036854775807 by omega)]
    exact Nxt.same (by simp) (bb_one hb _) (by simp [slotsBelow, V.under]) ⟨rfl, by rw [hset]⟩
  · have e : n = j := by omega
    subst e
    have hL : f + 1 ≤ (List.replicate n (n + 1) ++ List.replicate (n - n) 0).length := by simp; omega
    have hd0 : (List.replicate n (n + 1) ++ List.replicate (n - n) 0).set f 0 = dist0 n f := by simp [dist0]
    generalize List.replicate n (n + 1) ++ List.replicate (n - n) 0 = L at hd0 hL
    have hvs : List.take f (vis L) ++ (V.d (D.lit (Value.int IntKind.i64 0)) :: List.drop (f + 1) (vis L)) = vis (L.set f 0) := vis_set (lt_pos hL) 0
    simp -dsimp -implicitDefEqProofs only [aw, slots0, V.copy, V.lend, V.lend1, V.cells, V.boxable, over, bldV, boundV, rowsOf, plains, V.plain, Nat.reduceLeDiff, cond_true, cond_false, implies_true, eq_self, ne_eq, reduceIte, reduceCtorEq, Nat.reduceBEq, Nat.reduceLT, Nat.reduceEqDiff, Nat.reduceAdd, Nat.reduceSub, Nat.reduceMul, Int.ofNat_lt, Nat.lt_irrefl, decide_false, hf, hL, Nat.mul_one]
    rw [hvs, hd0]
    refine awp_forK [0, 1, 7, 9] (fun (k : Nat) ρ σ' => ρ = [(0, .d (dint n)), (1, .d (dprs l)), (7, .bsl σ.length 0 n 1), (9, vint .i64 k)] ∧ σ' = σ ++ [vis (dsts l k (dist0 n f))] ∧ (dsts l k (dist0 n f)).length = n ∧ ∀ x, at0 (dsts l k (dist0 n f)) x ≤ n + 1) n ⟨rfl, rfl, by simp [dsts, dist0], fun x => ?_⟩ ?_ _
    · unfold dsts dist0
      rw [at0_set (by simpa using hf)]
      split
      · omega
      · unfold at0
        rw [List.getElem?_replicate]
        split <;> simp
    rintro k ρ' σ' hk' ⟨rfl, rfl, hlen, hbd⟩
    by_cases hk : k < n
    · have hs := dsts_succ l k (dist0 n f)
      generalize dsts l k (dist0 n f) = lv at hlen hbd hs
      simp -dsimp -implicitDefEqProofs only [aw, slots0, V.copy, V.lend, V.lend1, V.cells, V.boxable, over, bldV, boundV, rowsOf, plains, V.plain, Nat.reduceLeDiff, cond_true, cond_false, implies_true, eq_self, ne_eq, reduceIte, reduceCtorEq, Nat.reduceBEq, Nat.reduceLT, Nat.reduceEqDiff, Nat.reduceAdd, Nat.reduceSub, Nat.reduceMul, Int.ofNat_lt, hk, decide_true]
      refine awp_forK [0, 1, 7, 9, 10] (fun (j : Nat) ρ σ' => ρ = [(0, .d (dint n)), (1, .d (dprs l)), (7, .bsl σ.length 0 n 1), (9, vint .i64 k), (10, vint .i64 j)] ∧ σ' = σ ++ [vis ((l.take j).foldl dst1 lv)] ∧ ((l.take j).foldl dst1 lv).length = n ∧ ∀ x, at0 ((l.take j).foldl dst1 lv) x ≤ n + 1) l.length ⟨rfl, rfl, hlen, hbd⟩ ?_ _
      rintro j ρ' σ' hj ⟨rfl, rfl, hlen2, hbd2⟩
      by_cases hlt : j < l.length
      · have hat : l[j]? = some l[j] := List.getElem?_eq_getElem hlt
        have hab := hl l[j].1 l[j].2 (List.getElem_mem hlt)
        have hfold := foldl_take dst1 lv hlt
        generalize (l.take j).foldl dst1 lv = lw at hlen2 hbd2 hfold
        generalize l[j] = p at hat hab hfold
        obtain ⟨a, b⟩ := p
        obtain ⟨ha, hb2⟩ := hab
        simp only at ha hb2
        have hle := dst1_le (p := (a, b)) hbd2 (by rw [hlen2]; exact ha)
        have hrl := dst1_len lw (a, b)
        rw [← hfold] at hle hrl
        have pa := vis_pk (L := lw) (n := a) (by omega)
        have pb := vis_pk (L := lw) (n := b) (by omega)
        have la : a + 1 ≤ lw.length := by omega
        have lb : b + 1 ≤ lw.length := by omega
        have hbb := hbd2 b
        have hw : IntKind.i64.wrap ((at0 lw b : Int) + 1) = ((at0 lw b + 1 : Nat) : Int) := by rw [wrap_i64 (by omega) (by omega)]; omega
        by_cases hc : at0 lw b + 1 < at0 lw a
        · have he : dst1 lw (a, b) = lw.set a (at0 lw b + 1) := if_pos hc
          simp -dsimp -implicitDefEqProofs only [aw, slots0, V.copy, V.lend, V.lend1, V.cells, V.boxable, over, bldV, boundV, rowsOf, plains, V.plain, Nat.reduceLeDiff, cond_true, cond_false, implies_true, eq_self, ne_eq, reduceIte, reduceCtorEq, Nat.reduceBEq, Nat.reduceLT, Nat.reduceEqDiff, Nat.reduceAdd, Nat.reduceSub, Nat.reduceMul, Int.ofNat_lt, hlt, decide_true, dprs_eq, prs_at hat, iaK_some, abr0, abr1, ha, hb2, pa, pb, la, lb, Nat.mul_one, hw, hc, vis_set (lt_pos la), wrap_nat hlt (show l.length ≤ 9223372036854775807 by omega)]
          exact Nxt.same (by simp) (bb_one hb _) (by simp [slotsBelow, V.under]) ⟨by rw [dprs_eq], by rw [hfold, he], by rw [hrl]; exact hlen2, hle⟩
        · have he : dst1 lw (a, b) = lw := if_neg hc
          simp -dsimp -implicitDefEqProofs only [aw, slots0, V.copy, V.lend, V.lend1, V.cells, V.boxable, over, bldV, boundV, rowsOf, plains, V.plain, Nat.reduceLeDiff, cond_true, cond_false, implies_true, eq_self, ne_eq, reduceIte, reduceCtorEq, Nat.reduceBEq, Nat.reduceLT, Nat.reduceEqDiff, Nat.reduceAdd, Nat.reduceSub, Nat.reduceMul, Int.ofNat_lt, hlt, decide_true, dprs_eq, prs_at hat, iaK_some, abr0, abr1, ha, hb2, pa, pb, la, lb, Nat.mul_one, hw, hc, decide_false, wrap_nat hlt (show l.length ≤ 9223372036854775807 by omega)]
          exact Nxt.same (by simp) (bb_one hb _) (by simp [slotsBelow, V.under]) ⟨by rw [dprs_eq], by rw [hfold, he], by rw [hrl]; exact hlen2, hle⟩
      · simp -dsimp -implicitDefEqProofs only [aw, slots0, V.copy, V.lend, V.lend1, V.cells, V.boxable, over, bldV, boundV, rowsOf, plains, V.plain, Nat.reduceLeDiff, cond_true, cond_false, implies_true, eq_self, ne_eq, reduceIte, reduceCtorEq, Nat.reduceBEq, Nat.reduceLT, Nat.reduceEqDiff, Nat.reduceAdd, Nat.reduceSub, Nat.reduceMul, Int.ofNat_lt, hlt, decide_false, dprs_eq, wrap_nat hk (show n ≤ 9223372036854775807 by omega)]
        rw [List.take_of_length_le (by omega)] at hlen2 hbd2 ⊢
        exact ⟨hk, Nxt.same (by simp) (bb_one hb _) (by simp [slotsBelow, V.under]) ⟨by rw [dprs_eq], by rw [hs], by rw [hs]; exact hlen2, by rw [hs]; exact hbd2⟩⟩
    · have e : n = k := by omega
      subst e
      simp -dsimp -implicitDefEqProofs only [aw, slots0, V.copy, V.lend, V.lend1, V.cells, V.boxable, over, bldV, boundV, rowsOf, plains, V.plain, Nat.reduceLeDiff, cond_true, cond_false, implies_true, eq_self, ne_eq, reduceIte, reduceCtorEq, Nat.reduceBEq, Nat.reduceLT, Nat.reduceEqDiff, Nat.reduceAdd, Nat.reduceSub, Nat.reduceMul, Int.ofNat_lt, Nat.lt_irrefl, decide_false]
      have hfz := vis_frz (σ := σ ++ [vis (dsts l n (dist0 n f))]) (L := dsts l n (dist0 n f)) (Nat.le_refl σ.length) (by rw [box_at0]; rfl)
      rw [hlen] at hfz
      exact fin_frz [(6, .d (dints (cst (dsts l n (dist0 n f)))))] hb List.take_left (fun p hp => by rw [List.mem_singleton.1 hp]; exact hfz) rfl rfl ⟨rfl, rfl⟩
end Go.Proofs.Ytinenohgemndiaa
