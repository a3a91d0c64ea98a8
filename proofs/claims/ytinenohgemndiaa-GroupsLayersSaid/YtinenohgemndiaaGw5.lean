/-
  slices.IndexFunc and slices.DeleteFunc with the function that Levels hands on.
-/
import Derived.Test.YtinenohgemndiaaGw4
set_option linter.unusedVariables false
set_option linter.unusedSimpArgs false
set_option linter.unusedSectionVars false
namespace Go.Proofs.Ytinenohgemndiaa
open Go.RowKit
abbrev irow (L : List Nat) : List (List D) := (cst L).map fun x => [dint x]
def LvB (σ : List (List V)) (b : Nat) (lv : List Nat) : Prop := σ[b]? = some [.own 3 1 (irow lv)]
theorem lev1_fun (k : Nat) (b : Nat) (lv : List Nat) (hl : lv.length ≤ 1000000) (σ : List (List V)) (h : LvB σ b lv) : Fun G 28 [.d (dint k), .ptr b 0] σ (RetV (vbool (lv.contains k)) σ) := by
  refine fun_code Try.func28 k28 rfl fun hb hw => ?_
  unfold c28
  unfold LvB at h
  simp -dsimp -implicitDefEqProofs only [aw, slots0, V.copy, V.lend, V.lend1, V.cells, V.boxable, over, bldV, boundV, rowsOf, plains, V.plain, Nat.reduceLeDiff, cond_true, cond_false, implies_true, eq_self, ne_eq, reduceIte, reduceCtorEq, Nat.reduceBEq, Nat.reduceLT, Nat.reduceEqDiff, Nat.reduceAdd, Nat.reduceSub, Nat.reduceMul, h]
  refine fun_ret (contains_fun _ lv k hl _ (IR.d lv)) ?_
  simp -dsimp -implicitDefEqProofs only [aw, slots0, V.copy, V.lend, V.lend1, V.cells, V.boxable, over, bldV, boundV, rowsOf, plains, V.plain, Nat.reduceLeDiff, cond_true, cond_false, implies_true, eq_self, ne_eq, reduceIte, reduceCtorEq, Nat.reduceBEq, Nat.reduceLT, Nat.reduceEqDiff, Nat.reduceAdd, Nat.reduceSub, Nat.reduceMul]
  first | exact fin_ret hb rfl rfl List.take_length ⟨rfl, rfl⟩ | exact fin_ret hb rfl rfl List.take_left ⟨rfl, rfl⟩ | (trace_state; fail "fin")
def idxP (L lv : List Nat) (j : Nat) : Int := match (L.drop j).findIdx? (lv.contains ·) with | some k => (j : Int) + (k : Int) | none => -1
theorem idxP_step {L lv : List Nat} {j : Nat} (h : j < L.length) : idxP L lv j = if lv.contains (at0 L j) = true then (j : Int) else idxP L lv (j + 1) := by
  unfold idxP
  rw [List.drop_eq_getElem_cons h, List.findIdx?_cons]
  have : at0 L j = L[j] := by unfold at0; rw [List.getElem?_eq_getElem h]; rfl
  rw [this]
  cases e : lv.contains L[j]
  · rw [if_neg (by simp), if_neg (by simp)]
    cases (L.drop (j + 1)).findIdx? (lv.contains ·) with
    | none => rfl
    | some k => simp only [Option.map_some]; omega
  · simp
theorem idxP_end {L lv : List Nat} {j : Nat} (h : L.length ≤ j) : idxP L lv j = -1 := by unfold idxP; rw [List.drop_eq_nil_of_le h]; rfl
theorem idxfunc_fun (i c b : Nat) (L C lv : List Nat) (hl : lv.length ≤ 1000000) (hL : L.length ≤ 1000000) (σ : List (List V)) (h : σ[i]? = some (vis C)) (ht : C.take L.length = L) (hb' : LvB σ b lv) : Fun G 39 [.bsc i L.length c, .fn 28 [.ptr b 0]] σ (RetV (.d (dint (idxP L lv 0))) σ) := by
  refine fun_code Try.func39 k39 rfl fun hb hw => ?_
  unfold c39
  have hle := take_len ht
  have hi := (List.getElem?_eq_some_iff.1 h).1
  have hbl := (List.getElem?_eq_some_iff.1 hb').1
  simp -dsimp -implicitDefEqProofs only [aw, slots0, V.copy, V.lend, V.lend1, V.cells, V.boxable, over, bldV, boundV, rowsOf, plains, V.plain, Nat.reduceLeDiff, cond_true, cond_false, implies_true, eq_self, ne_eq, reduceIte, reduceCtorEq, Nat.reduceBEq, Nat.reduceLT, Nat.reduceEqDiff, Nat.reduceAdd, Nat.reduceSub, Nat.reduceMul]
  refine awp_forK [0, 1, 7, 8] (fun (j : Nat) ρ σ' => ρ = [(0, .bsc i L.length c), (1, .fn 28 [.ptr b 0]), (7, vint .i64 L.length), (8, vint .i64 j)] ∧ σ' = σ ∧ idxP L lv 0 = idxP L lv j) L.length ⟨rfl, rfl, rfl⟩ ?_ _
  rintro j ρ' σ' hj ⟨rfl, rfl, hr⟩
  by_cases hlt : j < L.length
  · rw [idxP_step hlt] at hr
    have h1 := vis_pk2 ht hlt
    have hl1 : j + 1 ≤ C.length := by omega
    simp -dsimp -implicitDefEqProofs only [aw, slots0, V.copy, V.lend, V.lend1, V.cells, V.boxable, over, bldV, boundV, rowsOf, plains, V.plain, Nat.reduceLeDiff, cond_true, cond_false, implies_true, eq_self, ne_eq, reduceIte, reduceCtorEq, Nat.reduceBEq, Nat.reduceLT, Nat.reduceEqDiff, Nat.reduceAdd, Nat.reduceSub, Nat.reduceMul, Int.ofNat_lt, hlt, decide_true, h, hl1, h1, vis_noMap]
    refine fun_ret (lev1_fun (at0 L j) b lv hl _ hb') ?_
    cases hc : lv.contains (at0 L j)
    · rw [hc, if_neg (by simp)] at hr
      simp -dsimp -implicitDefEqProofs only [aw, slots0, V.copy, V.lend, V.lend1, V.cells, V.boxable, over, bldV, boundV, rowsOf, plains, V.plain, Nat.reduceLeDiff, cond_true, cond_false, implies_true, eq_self, ne_eq, reduceIte, reduceCtorEq, Nat.reduceBEq, Nat.reduceLT, Nat.reduceEqDiff, Nat.reduceAdd, Nat.reduceSub, Nat.reduceMul, wrap_nat hlt (show L.length ≤ 9223372036854775807 by omega)]
      exact ⟨hlt, Nxt.same (Nat.le_refl _) hb (by simp [slotsBelow, V.under, V.unders]; exact ⟨hi, hbl⟩) ⟨rfl, rfl, hr⟩⟩
    · rw [hc, if_pos rfl] at hr
      simp -dsimp -implicitDefEqProofs only [aw, slots0, V.copy, V.lend, V.lend1, V.cells, V.boxable, over, bldV, boundV, rowsOf, plains, V.plain, Nat.reduceLeDiff, cond_true, cond_false, implies_true, eq_self, ne_eq, reduceIte, reduceCtorEq, Nat.reduceBEq, Nat.reduceLT, Nat.reduceEqDiff, Nat.reduceAdd, Nat.reduceSub, Nat.reduceMul]
      rw [hr]
      first | exact fin_ret hb rfl rfl List.take_length ⟨rfl, rfl⟩ | exact fin_ret hb rfl rfl List.take_left ⟨rfl, rfl⟩ | (trace_state; fail "fin")
  · rw [idxP_end (Nat.le_of_not_lt hlt)] at hr
    simp -dsimp -implicitDefEqProofs only [aw, slots0, V.copy, V.lend, V.lend1, V.cells, V.boxable, over, bldV, boundV, rowsOf, plains, V.plain, Nat.reduceLeDiff, cond_true, cond_false, implies_true, eq_self, ne_eq, reduceIte, reduceCtorEq, Nat.reduceBEq, Nat.reduceLT, Nat.reduceEqDiff, Nat.reduceAdd, Nat.reduceSub, Nat.reduceMul, Int.ofNat_lt, hlt, decide_false]
    rw [hr]
    first | exact fin_ret hb rfl rfl List.take_length ⟨rfl, rfl⟩ | exact fin_ret hb rfl rfl List.take_left ⟨rfl, rfl⟩ | (trace_state; fail "fin")
def keepN (lv L : List Nat) : List Nat := L.filter fun k => !lv.contains k
theorem idxP_spec (L lv : List Nat) : ∀ j, (idxP L lv j = -1 ∧ keepN lv (L.drop j) = L.drop j) ∨ ∃ i : Nat, idxP L lv j = i ∧ j ≤ i ∧ i < L.length ∧ lv.contains (at0 L i) = true ∧ keepN lv ((L.take i).drop j) = (L.take i).drop j := by
  intro j
  by_cases h : j < L.length
  · have e : L[j] = at0 L j := by unfold at0; rw [List.getElem?_eq_getElem h]; rfl
    rw [idxP_step h]
    cases hc : lv.contains (at0 L j)
    · rw [if_neg (by simp)]
      have := idxP_spec L lv (j + 1)
      rcases this with ⟨h1, h2⟩ | ⟨i, h1, h2, h3, h4, h5⟩
      · refine .inl ⟨h1, ?_⟩
        rw [List.drop_eq_getElem_cons h]
        unfold keepN at h2 ⊢
        rw [List.filter_cons_of_pos (by rw [e, hc]; rfl), h2]
      · refine .inr ⟨i, h1, by omega, h3, h4, ?_⟩
        have hlt : j < (L.take i).length := by simp; omega
        rw [List.drop_eq_getElem_cons hlt]
        unfold keepN at h5 ⊢
        rw [List.filter_cons_of_pos (by rw [List.getElem_take, e, hc]; rfl), h5]
    · rw [if_pos rfl]
      exact .inr ⟨j, rfl, Nat.le_refl _, h, hc, by rw [List.drop_eq_nil_of_le (by simp; omega)]; rfl⟩
  · rw [idxP_end (by omega), List.drop_eq_nil_of_le (by omega)]
    exact .inl ⟨rfl, rfl⟩
termination_by j => L.length - j
theorem keepN_take {lv L : List Nat} {j : Nat} (h : j < L.length) : keepN lv (L.take (j + 1)) = keepN lv (L.take j) ++ (if lv.contains (at0 L j) = true then [] else [at0 L j]) := by
  have e : L[j]? = some (at0 L j) := by unfold at0; rw [List.getElem?_eq_getElem h]; rfl
  unfold keepN
  rw [List.take_add_one, e, List.filter_append]
  congr 1
  cases hc : lv.contains (at0 L j)
  · rw [if_neg (by simp)]; simp at hc; simp [hc]
  · rw [if_pos rfl]; simp at hc; simp [hc]
def DelQ (σ : List (List V)) (i c : Nat) (L lv C : List Nat) : Out → List (List V) → Prop := fun o σ' => o = .ret (.bsc i (keepN lv L).length c) ∧ ∃ C', C'.length = C.length ∧ C'.take (keepN lv L).length = keepN lv L ∧ σ' = σ.set i (vis C')
set_option maxHeartbeats 2000000 in
theorem delfunc_fun (i b : Nat) (L C lv : List Nat) (hl : lv.length ≤ 1000000) (hL : L.length ≤ 1000000) (σ : List (List V)) (h : σ[i]? = some (vis C)) (ht : C.take L.length = L) (hb' : LvB σ b lv) (hib : i ≠ b) : Fun G 27 [.bsc i L.length C.length, .fn 28 [.ptr b 0]] σ (DelQ σ i C.length L lv C) := by
  refine fun_code Try.func27 k27 rfl fun hb hw => ?_
  unfold c27
  have hle := take_len ht
  have hi := (List.getElem?_eq_some_iff.1 h).1
  have hbl := (List.getElem?_eq_some_iff.1 hb').1
  simp -dsimp -implicitDefEqProofs only [aw, slots0, V.copy, V.lend, V.lend1, V.cells, V.boxable, over, bldV, boundV, rowsOf, plains, V.plain, Nat.reduceLeDiff, cond_true, cond_false, implies_true, eq_self, ne_eq, reduceIte, reduceCtorEq, Nat.reduceBEq, Nat.reduceLT, Nat.reduceEqDiff, Nat.reduceAdd, Nat.reduceSub, Nat.reduceMul]
  refine fun_ret (idxfunc_fun i C.length b L C lv hl hL _ h ht hb') ?_
  rcases idxP_spec L lv 0 with ⟨h1, h2⟩ | ⟨i0, h1, -, h3, h4, h5⟩
  · rw [h1]
    rw [List.drop_zero] at h2
    simp -dsimp -implicitDefEqProofs only [aw, slots0, V.copy, V.lend, V.lend1, V.cells, V.boxable, over, bldV, boundV, rowsOf, plains, V.plain, Nat.reduceLeDiff, cond_true, cond_false, implies_true, eq_self, ne_eq, reduceIte, reduceCtorEq, Nat.reduceBEq, Nat.reduceLT, Nat.reduceEqDiff, Nat.reduceAdd, Nat.reduceSub, Nat.reduceMul, decide_true]
    exact fin_ret (v := .bsc i L.length C.length) hb rfl (by simpa [V.under] using hi) List.take_length ⟨by rw [h2], C, rfl, by rw [h2]; exact ht, (set_same h).symm⟩
  rw [h1]
  rw [List.drop_zero] at h5
  have hne : ¬ ((i0 : Nat) : Int) = -1 := by omega
  have hw1 : IntKind.i64.wrap ((i0 : Int) + 1) = ((i0 + 1 : Nat) : Int) := by rw [wrap_i64 (by omega) (by omega)]; omega
  have hk0 : keepN lv (L.take (i0 + 1)) = L.take i0 := by rw [keepN_take h3, h4, if_pos rfl, List.append_nil, h5]
  simp -dsimp -implicitDefEqProofs only [aw, slots0, V.copy, V.lend, V.lend1, V.cells, V.boxable, over, bldV, boundV, rowsOf, plains, V.plain, Nat.reduceLeDiff, cond_true, cond_false, implies_true, eq_self, ne_eq, reduceIte, reduceCtorEq, Nat.reduceBEq, Nat.reduceLT, Nat.reduceEqDiff, Nat.reduceAdd, Nat.reduceSub, Nat.reduceMul, hne, decide_false, hw1]
  refine awp_forK [0, 1, 5, 6] (fun (j : Nat) ρ σ' => ∃ C', ρ = [(0, .bsc i L.length C.length), (1, .fn 28 [.ptr b 0]), (5, vint .i64 (keepN lv (L.take (i0 + 1 + j))).length), (6, vint .i64 (i0 + 1 + j : Nat))] ∧ σ' = σ.set i (vis C') ∧ C'.length = C.length ∧ C'.take (keepN lv (L.take (i0 + 1 + j))).length = keepN lv (L.take (i0 + 1 + j)) ∧ (∀ x, i0 + 1 + j ≤ x → at0 C' x = at0 C x) ∧ (keepN lv (L.take (i0 + 1 + j))).length < i0 + 1 + j) (L.length - (i0 + 1)) ?_ ?_ _
  · refine ⟨C, ?_, (set_same h).symm, rfl, ?_, fun x _ => rfl, ?_⟩
    · rw [Nat.add_zero, hk0, List.length_take, Nat.min_eq_left (by omega)]; rfl
    · rw [Nat.add_zero, hk0, List.length_take, Nat.min_eq_left (by omega)]
      rw [← ht, List.take_take, Nat.min_eq_left (by omega)]
    · rw [Nat.add_zero, hk0, List.length_take]; omega
  rintro j ρ' σ' hj ⟨C', rfl, rfl, hCl, hCt, hCx, hCk⟩
  have hc1 : (σ.set i (vis C'))[i]? = some (vis C') := List.getElem?_set_self hi
  have hc2 : LvB (σ.set i (vis C')) b lv := by unfold LvB; rw [List.getElem?_set_ne hib]; exact hb'
  have hbb : ∀ C'' : List Nat, boxesBelow (σ.set i (vis C'')).length (σ.set i (vis C'')) = true := fun C'' => bb_set' hb (vis_unders _ _)
  by_cases hlt : i0 + 1 + j < L.length
  · have hst := keepN_take (lv := lv) hlt
    generalize hm : i0 + 1 + j = m at *
    have hpk := vis_pk (L := C') (n := m) (by omega)
    rw [hCx m (Nat.le_refl _), at0_take ht hlt] at hpk
    have hl1 : m + 1 ≤ C'.length := by omega
    have hwm := wrap_nat hlt (show L.length ≤ 9223372036854775807 by omega)
    rw [show i0 + 1 + (j + 1) = m + 1 by omega]
    simp -dsimp -implicitDefEqProofs only [aw, slots0, V.copy, V.lend, V.lend1, V.cells, V.boxable, over, bldV, boundV, rowsOf, plains, V.plain, Nat.reduceLeDiff, cond_true, cond_false, implies_true, eq_self, ne_eq, reduceIte, reduceCtorEq, Nat.reduceBEq, Nat.reduceLT, Nat.reduceEqDiff, Nat.reduceAdd, Nat.reduceSub, Nat.reduceMul, Int.ofNat_lt, hlt, decide_true, hc1, hl1, hpk, vis_noMap]
    refine fun_ret (lev1_fun (at0 L m) b lv hl _ hc2) ?_
    cases hc : lv.contains (at0 L m)
    · rw [hc, if_neg (by simp)] at hst
      have hq1 : (keepN lv (L.take m)).length < L.length := by omega
      have hq2 : (keepN lv (L.take m)).length + 1 ≤ C'.length := by omega
      have hvs := vis_set hq2 (at0 L m)
      have hwq := wrap_nat hq1 (show L.length ≤ 9223372036854775807 by omega)
      simp -dsimp -implicitDefEqProofs only [aw, slots0, V.copy, V.lend, V.lend1, V.cells, V.boxable, over, bldV, boundV, rowsOf, plains, V.plain, Nat.reduceLeDiff, cond_true, cond_false, implies_true, eq_self, ne_eq, reduceIte, reduceCtorEq, Nat.reduceBEq, Nat.reduceLT, Nat.reduceEqDiff, Nat.reduceAdd, Nat.reduceSub, Nat.reduceMul, Int.ofNat_lt, hq1, hq2, hc1, vis_noMap, Nat.mul_one, hvs, hwm, hwq, List.set_set]
      refine ⟨by omega, Nxt.same (by simp) (hbb _) (by simp [slotsBelow, V.under, V.unders]; exact ⟨hi, hbl⟩) ⟨_, by rw [hst]; simp, rfl, by simpa using hCl, ?_, fun x hx => ?_, ?_⟩⟩
      · rw [hst, List.length_append, List.length_singleton, List.take_add_one, List.getElem?_set_self hq2, List.take_set_of_le (Nat.le_refl _), hCt]; rfl
      · rw [at0_set hq2, if_neg (by omega)]; exact hCx x (by omega)
      · rw [hst, List.length_append, List.length_singleton]; omega
    · rw [hc, if_pos rfl, List.append_nil] at hst
      simp -dsimp -implicitDefEqProofs only [aw, slots0, V.copy, V.lend, V.lend1, V.cells, V.boxable, over, bldV, boundV, rowsOf, plains, V.plain, Nat.reduceLeDiff, cond_true, cond_false, implies_true, eq_self, ne_eq, reduceIte, reduceCtorEq, Nat.reduceBEq, Nat.reduceLT, Nat.reduceEqDiff, Nat.reduceAdd, Nat.reduceSub, Nat.reduceMul, hwm]
      refine ⟨by omega, Nxt.same (by simp) (hbb _) (by simp [slotsBelow, V.under, V.unders]; exact ⟨hi, hbl⟩) ⟨C', by rw [hst], rfl, hCl, by rw [hst]; exact hCt, fun x hx => hCx x (by omega), by rw [hst]; omega⟩⟩
  · rw [List.take_of_length_le (Nat.le_of_not_lt hlt)] at hCt hCk ⊢
    have hkl : (keepN lv L).length < L.length := by omega
    have hs1 : subV false 1 (V.bsc i L.length C.length) (some (vint IntKind.i64 ((keepN lv L).length : Nat))) none = some (if (keepN lv L).length = 0 then .bsc i L.length C.length else .bsl i (keepN lv L).length (L.length - (keepN lv L).length) 1) := by
      simp only [subV, boundV]
      have : ¬ (keepN lv L).length = L.length := by omega
      simp [this]; omega
    have hs2 : subV false 1 (V.bsc i L.length C.length) none (some (vint IntKind.i64 ((keepN lv L).length : Nat))) = some (.bsc i (keepN lv L).length C.length) := by
      simp only [subV, boundV]
      simp; omega
    have hl2 : (keepN lv L).length + (L.length - (keepN lv L).length) ≤ C'.length := by omega
    have hl3 : L.length ≤ C'.length := by omega
    have hzs : ∀ z : Nat, List.replicate z (V.d (D.lit (Value.int IntKind.i64 0))) = vis (List.replicate z 0) := fun z => vis_rep z
    have fin' : ∀ C'' : List Nat, C''.length = C.length → C''.take (keepN lv L).length = keepN lv L → fin σ.length rs27 (DelQ σ i C.length L lv C) .ret [(4, .bsc i (keepN lv L).length C.length)] (σ.set i (vis C'')) := fun C'' g1 g2 =>
      ⟨_, _, .refl _ _ _, .bsc i (keepN lv L).length C.length, rfl, σ.length, Nat.le_refl _, by rw [List.take_of_length_le (by simp)]; have := hbb C''; simpa using this, by simpa [V.under] using hi, by rw [List.take_of_length_le (by simp)]; exact ⟨rfl, C'', g1, g2, rfl⟩⟩
    by_cases hz : (keepN lv L).length = 0
    · rw [if_pos hz] at hs1
      simp -dsimp -implicitDefEqProofs only [aw, slots0, V.copy, V.lend, V.lend1, V.cells, V.boxable, over, bldV, boundV, rowsOf, plains, V.plain, Nat.reduceLeDiff, cond_true, cond_false, implies_true, eq_self, ne_eq, reduceIte, reduceCtorEq, Nat.reduceBEq, Nat.reduceLT, Nat.reduceEqDiff, Nat.reduceAdd, Nat.reduceSub, Nat.reduceMul, Int.ofNat_lt, hlt, decide_false, hs1, hs2, hc1, hl3, vis_noMap, List.set_set]
      rw [List.length_replicate, hzs, ← List.map_drop, ← List.map_append]
      refine fin' _ (by simp; omega) ?_
      have : keepN lv L = [] := List.eq_nil_of_length_eq_zero hz
      rw [this]; rfl
    · rw [if_neg hz] at hs1
      simp -dsimp -implicitDefEqProofs only [aw, slots0, V.copy, V.lend, V.lend1, V.cells, V.boxable, over, bldV, boundV, rowsOf, plains, V.plain, Nat.reduceLeDiff, cond_true, cond_false, implies_true, eq_self, ne_eq, reduceIte, reduceCtorEq, Nat.reduceBEq, Nat.reduceLT, Nat.reduceEqDiff, Nat.reduceAdd, Nat.reduceSub, Nat.reduceMul, Int.ofNat_lt, hlt, decide_false, hs1, hs2, hc1, hl2, vis_noMap, List.set_set]
      rw [List.length_replicate, hzs, ← List.map_drop, ← List.map_take, ← List.map_append, ← List.map_append]
      refine fin' _ (by simp; omega) ?_
      rw [List.take_left' (by simp; omega)]
      exact hCt
end Go.Proofs.Ytinenohgemndiaa
