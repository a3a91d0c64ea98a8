/-
  The program's distances.
-/
import Derived.Test.YtinenohgemndiaaGw2
set_option linter.unusedVariables false
set_option linter.unusedSimpArgs false
set_option linter.unusedSectionVars false
namespace Go.Proofs.Ytinenohgemndiaa
open Go.RowKit
theorem vit_set {L : List Int} {n : Nat} (h : n < L.length) (x : Int) : List.take n (vit L) ++ (V.d (dint x) :: List.drop (n + 1) (vit L)) = vit (L.set n x) := by
  unfold vit
  rw [List.set_eq_take_append_cons_drop, if_pos h, List.map_append, List.map_cons, List.map_take, List.map_drop]
theorem vit_pk {L : List Int} {n : Nat} (h : n < L.length) : packV false (List.take 1 (List.drop n (vit L))) = some (V.d (dint (ati L n))) := pk_at (c := V.d (dint (ati L n))) (by
  unfold ati
  rw [List.getElem?_map, List.getElem?_eq_getElem h]; rfl)
theorem vit_unders (k : Nat) (L : List Int) : V.unders k (vit L) = true := V.unders_of fun i hi => by rw [List.getElem_map]; rfl
theorem vit_noMap (L : List Int) : noMap (vit L) = true := noMap_of fun c hc st kv e => by obtain ⟨x, -, rfl⟩ := List.mem_map.1 hc; cases e
theorem vit_len (L : List Int) : (vit L).length = L.length := List.length_map _
theorem vit_frz {σ : List (List V)} {k i : Nat} {L : List Int} (hi : k ≤ i) (hc : σ[i]? = some (vit L)) : FrzV σ k (.bsl i 0 L.length 1) (.d (dints L)) := by
  refine .d (.bsl i 0 L.length 1 (vit L) _ hi hc (by simp) (fun r hr => ?_) (by simp) (fun r j hr hj => ?_))
  · obtain ⟨b, -, rfl⟩ := List.mem_map.1 hr; rfl
  · have hr' : r < L.length := by simpa using hr
    have hj0 : j = 0 := by simpa using hj
    subst hj0
    simp only [List.getElem_map, List.getElem_cons_zero, Nat.zero_add, Nat.mul_one, Nat.add_zero]
    rw [List.getD_eq_getElem?_getD, List.getElem?_map, List.getElem?_eq_getElem hr', Option.map_some, Option.getD_some]
    exact .d _
def cneg (o : List Int) : Nat := (o.filter fun x => decide (x < 0)).length
theorem cneg_set {d : Int} (hd : 0 ≤ d) : ∀ {o : List Int} {k : Nat}, ati o k < 0 → k < o.length → cneg (o.set k d) + 1 = cneg o
  | x :: r, 0, h, _ => by
    have hx : x < 0 := h
    unfold cneg
    rw [List.set_cons_zero, List.filter_cons_of_neg (by simp; omega), List.filter_cons_of_pos (by simpa using hx), List.length_cons]
  | x :: r, k + 1, h, hk => by
    have ih := cneg_set hd (o := r) (k := k) (by simpa [ati] using h) (by simpa using hk)
    unfold cneg at ih ⊢
    rw [List.set_cons_succ]
    by_cases hx : x < 0
    · rw [List.filter_cons_of_pos (by simpa using hx), List.filter_cons_of_pos (by simpa using hx), List.length_cons, List.length_cons]; omega
    · rw [List.filter_cons_of_neg (by simpa using hx), List.filter_cons_of_neg (by simpa using hx)]; exact ih
theorem cneg_le (o : List Int) : cneg o ≤ o.length := List.length_filter_le _ _
def SOK (n : Nat) (s : List Int × List Nat) : Prop := s.1.length = n ∧ cneg s.1 + s.2.length ≤ n
theorem bst_ok {n : Nat} {d : Int} (hd : 0 ≤ d) {s : List Int × List Nat} {k : Nat} (h : SOK n s) (hk : k < n) : SOK n (bst d s k) := by
  unfold bst
  split
  · rename_i hneg
    have := cneg_set hd hneg (by rw [h.1]; exact hk)
    exact ⟨by rw [List.length_set]; exact h.1, by have := h.2; simp only [List.length_append, List.length_singleton]; omega⟩
  · exact h
theorem bst_oks {n : Nat} {d : Int} (hd : 0 ≤ d) : ∀ (ks : List Nat) {s : List Int × List Nat}, SOK n s → (∀ k ∈ ks, k < n) → SOK n (ks.foldl (bst d) s)
  | [], s, h, _ => h
  | k :: r, s, h, hk => bst_oks hd r (bst_ok hd h (hk k (List.mem_cons_self ..))) fun a ha => hk a (List.mem_cons_of_mem _ ha)
def dsP (n f : Nat) (l : Prs) : List Int := bfs l n 1 ((List.replicate n (-1)).set f 0, [f])
theorem bfs_stop {l : Prs} {k : Nat} {d : Int} {s : List Int × List Nat} (h : s.2 = []) : bfs l k d s = s.1 := by
  cases k with
  | zero => rfl
  | succ k => unfold bfs; rw [if_pos h]
theorem set_same {α : Type} {σ : List α} {i : Nat} {x : α} (h : σ[i]? = some x) : σ.set i x = σ := by
  apply List.ext_getElem?
  intro j
  by_cases e : i = j
  · subst e
    rw [List.getElem?_set_self (List.getElem?_eq_some_iff.1 h).1, h]
  · rw [List.getElem?_set_ne e]
theorem bb_set' {i : Nat} {σ : List (List V)} {cs : List V} (h : boxesBelow σ.length σ = true) (hc : V.unders σ.length cs = true) : boxesBelow (σ.set i cs).length (σ.set i cs) = true := by
  rw [List.length_set]; exact bb_set h hc
set_option maxHeartbeats 8000000 in
theorem dist_fun (n f : Nat) (l : Prs) (hn : n ≤ 64) (hf : f < n) (hl : ∀ a b, RL l a b → a < n ∧ b < n) (hll : l.length ≤ 1000000) (σ : List (List V)) : Fun G 32 [.d (dint n), .d (dprs l), .d (dint f)] σ (RetV (.d (dints (dsP n f l))) σ) := by
  refine fun_code Try.func32 k32 rfl fun hb hw => ?_
  unfold c32
  simp -dsimp -implicitDefEqProofs only [aw, slots0, V.copy, V.lend, V.lend1, V.cells, V.boxable, over, bldV, boundV, rowsOf, plains, V.plain, Nat.reduceLeDiff, cond_true, cond_false, implies_true, eq_self, ne_eq, reduceIte, reduceCtorEq, Nat.reduceBEq, Nat.reduceLT, Nat.reduceEqDiff, Nat.reduceAdd, Nat.reduceSub, Nat.reduceMul]
  refine fun_mono (repeat_fun n hn (by omega) _) ?_
  rintro o σ1 ⟨rfl, rfl⟩
  have hfl : f + 1 ≤ (List.replicate n (-1 : Int)).length := by simp; omega
  simp -dsimp -implicitDefEqProofs only [aw, slots0, V.copy, V.lend, V.lend1, V.cells, V.boxable, over, bldV, boundV, rowsOf, plains, V.plain, Nat.reduceLeDiff, cond_true, cond_false, implies_true, eq_self, ne_eq, reduceIte, reduceCtorEq, Nat.reduceBEq, Nat.reduceLT, Nat.reduceEqDiff, Nat.reduceAdd, Nat.reduceSub, Nat.reduceMul, retK, hf, vit_len, hfl, vit_noMap, vit_set hfl, Nat.mul_one]
  refine fun_mono (pred_fun n l hn hl hll _) ?_
  rintro o X ⟨rfl, htk, hbb, ks, g, C, hP, hne⟩
  have hJ : (σ ++ [vit ((List.replicate n (-1)).set f 0)]).length = σ.length + 1 := by simp
  rw [hJ] at htk hP
  have hXl := hP.lt.1
  have hX0 : X[σ.length]? = some (vit ((List.replicate n (-1)).set f 0)) := by
    have := congrArg (·[σ.length]?) htk
    simp only [List.getElem?_take] at this
    rw [if_pos (by omega), box_at0] at this
    exact this
  have htk0 : X.take σ.length = σ := by
    have := congrArg (List.take σ.length) htk
    rw [List.take_take, Nat.min_eq_left (by omega), List.take_left] at this
    exact this
  have hS1 : ∀ o : List V, (X.set σ.length o)[σ.length]? = some o := fun o => List.getElem?_set_self (by omega)
  have hS2 : ∀ o : List V, (X.set σ.length o)[σ.length + 1]? = some [.mapc false (kvOf ks fun k => .bsc (g k) (preds l k).length (C k).length)] := fun o => by rw [List.getElem?_set_ne (by omega)]; exact hP.mp
  have hS3 : ∀ (o : List V) (i : Nat), i ∈ ks → (X.set σ.length o)[g i]? = some (vis (C i)) := fun o i hi => by rw [List.getElem?_set_ne (by have := (hP.gn i hi).1; omega)]; exact (hP.box i hi).1
  have hS4 : ∀ o : List Int, boxesBelow (X.set σ.length (vit o)).length (X.set σ.length (vit o)) = true := fun o => bb_set' hbb (vit_unders _ _)
  have hS5 : ∀ o : List V, (X.set σ.length o).length = X.length := fun o => List.length_set
  simp -dsimp -implicitDefEqProofs only [aw, slots0, V.copy, V.lend, V.lend1, V.cells, V.boxable, over, bldV, boundV, rowsOf, plains, V.plain, Nat.reduceLeDiff, cond_true, cond_false, implies_true, eq_self, ne_eq, reduceIte, reduceCtorEq, Nat.reduceBEq, Nat.reduceLT, Nat.reduceEqDiff, Nat.reduceAdd, Nat.reduceSub, Nat.reduceMul, retK]
  refine awp_forK [7, 8, 9, 10] (fun (j : Nat) ρ τ => ∃ o fr, ρ = [(7, .bsl σ.length 0 n 1), (8, .d (.sl ((cst fr).map fun x => [dint x]))), (9, .mp (σ.length + 1)), (10, vint .i64 (j + 1 : Nat))] ∧ τ = X.set σ.length (vit o) ∧ BI (RL l) n f (j + 1) (o, fr) ∧ SOK n (o, fr) ∧ dsP n f l = bfs l (n - j) (j + 1 : Nat) (o, fr)) n ?_ ?_ _
  · refine ⟨_, [f], ?_, (set_same hX0).symm, BI.start hf, ⟨by simp, ?_⟩, rfl⟩
    · simp [get, keepOnly]
    · have h1 := cneg_set (d := 0) (Int.le_refl 0) (o := List.replicate n (-1)) (k := f) (by unfold ati; rw [List.getElem?_replicate, if_pos hf]; decide) (by simpa using hf)
      have h2 := cneg_le (List.replicate n (-1))
      rw [List.length_replicate] at h2
      simp only [List.length_singleton]; omega
  rintro j ρ' τ hj ⟨o, fr, rfl, rfl, hBI, hSO, hD⟩
  cases fr with
  | nil =>
    rw [bfs_stop rfl] at hD
    simp -dsimp -implicitDefEqProofs only [aw, slots0, V.copy, V.lend, V.lend1, V.cells, V.boxable, over, bldV, boundV, rowsOf, plains, V.plain, Nat.reduceLeDiff, cond_true, cond_false, implies_true, eq_self, ne_eq, reduceIte, reduceCtorEq, Nat.reduceBEq, Nat.reduceLT, Nat.reduceEqDiff, Nat.reduceAdd, Nat.reduceSub, Nat.reduceMul, List.map_nil, List.length_nil, Int.reduceLT, Int.natCast_zero, Int.cast_ofNat_Int, gt_iff_lt, Int.lt_irrefl, decide_false]
    have hfz := vit_frz (σ := X.set σ.length (vit o)) (L := o) (Nat.le_refl σ.length) (hS1 _)
    rw [show o.length = n from hSO.1] at hfz
    rw [hD]
    exact fin_frz [(6, .d (dints o))] hb (by rw [take_set_ge (Nat.le_refl _)]; exact htk0) (fun p hp => by rw [List.mem_singleton.1 hp]; exact hfz) rfl rfl ⟨rfl, rfl⟩
  | cons v0 fr0 =>
  generalize hfr : v0 :: fr0 = fr at *
  have hfrn : fr ≠ [] := by rw [← hfr]; simp
  have hv0 := (hBI.front v0).1 (by show v0 ∈ fr; rw [← hfr]; exact List.mem_cons_self ..)
  have hjn : j < n := by have := hv0.2.lt hl hf; omega
  have hfl0 : 0 < fr.length := List.length_pos_iff.2 hfrn
  have hgt : ((fr.length : Nat) : Int) > 0 := by omega
  have hfl1 : fr.length ≤ n := by have := hSO.2; simp only at this; omega
  have hfin : ∀ i ∈ fr, i < n := fun i hi => ((hBI.front i).1 hi).1
  have hpin : ∀ i k, k ∈ preds l i → k < n := fun i k hk => (hl _ _ (preds_mem.1 hk)).1
  clear hfr
  simp -dsimp -implicitDefEqProofs only [aw, slots0, V.copy, V.lend, V.lend1, V.cells, V.boxable, over, bldV, boundV, rowsOf, plains, V.plain, Nat.reduceLeDiff, cond_true, cond_false, implies_true, eq_self, ne_eq, reduceIte, reduceCtorEq, Nat.reduceBEq, Nat.reduceLT, Nat.reduceEqDiff, Nat.reduceAdd, Nat.reduceSub, Nat.reduceMul, List.length_map, hgt, decide_true]
  refine awp_forK [7, 9, 10, 11, 31, 32, 33] (fun (a : Nat) ρ τ => ∃ s, s = ((fr.take a).flatMap (preds l)).foldl (bst (j + 1 : Nat)) (o, []) ∧ ρ = [(7, .bsl σ.length 0 n 1), (9, .mp (σ.length + 1)), (10, vint .i64 (j + 1 : Nat)), (11, .own 3 1 ((cst s.2).map fun x => [dint x])), (31, .d (.sl ((cst fr).map fun x => [dint x]))), (32, vint .i64 fr.length), (33, vint .i64 a)] ∧ τ = X.set σ.length (vit s.1)) fr.length ?_ ?_ _
  · exact ⟨_, rfl, rfl, rfl⟩
  rintro a ρ' τ ha ⟨s, hs, rfl, rfl⟩
  have hok0 : SOK n (o, []) := ⟨hSO.1, by have := cneg_le o; have h2 : o.length = n := hSO.1; simp only [List.length_nil]; omega⟩
  have hok : SOK n s := by
    rw [hs]
    refine bst_oks (by omega) _ hok0 fun k hk => ?_
    obtain ⟨i, -, hi⟩ := List.mem_flatMap.1 hk
    exact hpin i k hi
  by_cases hlt : a < fr.length
  · have hat := ints_at (cst_at hlt)
    have hst : ((fr.take (a + 1)).flatMap (preds l)).foldl (bst (j + 1 : Nat)) (o, []) = (preds l (at0 fr a)).foldl (bst (j + 1 : Nat)) s := by
      have e : fr[a]? = some (at0 fr a) := by unfold at0; rw [List.getElem?_eq_getElem hlt]; rfl
      rw [List.take_add_one, e, List.flatMap_append, List.foldl_append, ← hs]; simp
    generalize at0 fr a = i at hat hst
    have hwa := wrap_nat hlt (show fr.length ≤ 9223372036854775807 by omega)
    rcases hP.look i with ⟨hnk, hPi, hmg⟩ | ⟨hik, hmg⟩
    · rw [hPi] at hst
      simp -dsimp -implicitDefEqProofs only [aw, slots0, V.copy, V.lend, V.lend1, V.cells, V.boxable, over, bldV, boundV, rowsOf, plains, V.plain, Nat.reduceLeDiff, cond_true, cond_false, implies_true, eq_self, ne_eq, reduceIte, reduceCtorEq, Nat.reduceBEq, Nat.reduceLT, Nat.reduceEqDiff, Nat.reduceAdd, Nat.reduceSub, Nat.reduceMul, Int.ofNat_lt, hlt, decide_true, hat, iaK_some, hS2, hmg]
      refine awp_forK [7, 9, 10, 11, 31, 32, 33, 39, 40, 41] (fun (b : Nat) ρ τ => ρ = [(7, .bsl σ.length 0 n 1), (9, .mp (σ.length + 1)), (10, vint .i64 (j + 1 : Nat)), (11, .own 3 1 ((cst s.2).map fun x => [dint x])), (31, .d (.sl ((cst fr).map fun x => [dint x]))), (32, vint .i64 fr.length), (33, vint .i64 a), (39, .nil), (40, vint .i64 0), (41, vint .i64 0)] ∧ τ = X.set σ.length (vit s.1)) 0 ⟨rfl, rfl⟩ ?_ _
      rintro b ρ' τ hb' ⟨rfl, rfl⟩
      simp -dsimp -implicitDefEqProofs only [aw, slots0, V.copy, V.lend, V.lend1, V.cells, V.boxable, over, bldV, boundV, rowsOf, plains, V.plain, Nat.reduceLeDiff, cond_true, cond_false, implies_true, eq_self, ne_eq, reduceIte, reduceCtorEq, Nat.reduceBEq, Nat.reduceLT, Nat.reduceEqDiff, Nat.reduceAdd, Nat.reduceSub, Nat.reduceMul, Int.reduceLT, Int.lt_irrefl, decide_false, hwa]
      exact ⟨hlt, Nxt.same (by rw [hS5]; omega) (hS4 _) (by simp [slotsBelow, V.under, hS5]; omega) ⟨s, by rw [hst]; rfl, rfl, rfl⟩⟩
    · simp -dsimp -implicitDefEqProofs only [aw, slots0, V.copy, V.lend, V.lend1, V.cells, V.boxable, over, bldV, boundV, rowsOf, plains, V.plain, Nat.reduceLeDiff, cond_true, cond_false, implies_true, eq_self, ne_eq, reduceIte, reduceCtorEq, Nat.reduceBEq, Nat.reduceLT, Nat.reduceEqDiff, Nat.reduceAdd, Nat.reduceSub, Nat.reduceMul, Int.ofNat_lt, hlt, decide_true, hat, iaK_some, hS2, hmg]
      have hbox := (hP.box i hik).2
      have hpi := hpin i
      have hpll := Nat.le_trans (preds_len l i) hll
      generalize preds l i = L at *
      have hLl := take_len hbox
      refine awp_forK [7, 9, 10, 11, 31, 32, 33, 39, 40, 41] (fun (b : Nat) ρ τ => ∃ s', s' = (L.take b).foldl (bst (j + 1 : Nat)) s ∧ ρ = [(7, .bsl σ.length 0 n 1), (9, .mp (σ.length + 1)), (10, vint .i64 (j + 1 : Nat)), (11, .own 3 1 ((cst s'.2).map fun x => [dint x])), (31, .d (.sl ((cst fr).map fun x => [dint x]))), (32, vint .i64 fr.length), (33, vint .i64 a), (39, .bsc (g i) L.length (C i).length), (40, vint .i64 L.length), (41, vint .i64 b)] ∧ τ = X.set σ.length (vit s'.1)) L.length ⟨s, rfl, rfl, rfl⟩ ?_ _
      rintro b ρ' τ hb' ⟨s', hs', rfl, rfl⟩
      have hok' : SOK n s' := by
        rw [hs']
        exact bst_oks (by omega) _ hok fun k hk => hpi k (List.mem_of_mem_take hk)
      by_cases hlb : b < L.length
      · have hfo := foldl_take (bst (j + 1 : Nat)) s hlb
        rw [← hs'] at hfo
        have e : L[b] = at0 L b := by unfold at0; rw [List.getElem?_eq_getElem hlb]; rfl
        rw [e] at hfo
        have hkn : at0 L b < n := by rw [← e]; exact hpi _ (List.getElem_mem hlb)
        have hpk := vis_pk2 hbox hlb
        have hlC : b + 1 ≤ (C i).length := by omega
        generalize at0 L b = k at hfo hkn hpk
        have hko : k + 1 ≤ s'.1.length := by rw [hok'.1]; exact hkn
        have hwb := wrap_nat hlb (show L.length ≤ 9223372036854775807 by omega)
        have hpo := vit_pk hko
        unfold bst at hfo
        by_cases hneg : ati s'.1 k < 0
        · rw [if_pos hneg] at hfo
          have hvs := vit_set hko (j + 1 : Nat)
          simp -dsimp -implicitDefEqProofs only [aw, slots0, V.copy, V.lend, V.lend1, V.cells, V.boxable, over, bldV, boundV, rowsOf, plains, V.plain, Nat.reduceLeDiff, cond_true, cond_false, implies_true, eq_self, ne_eq, reduceIte, reduceCtorEq, Nat.reduceBEq, Nat.reduceLT, Nat.reduceEqDiff, Nat.reduceAdd, Nat.reduceSub, Nat.reduceMul, Int.ofNat_lt, hlb, decide_true, hS3 _ i hik, hlC, vis_noMap, hpk, hkn, hko, vit_len, vit_noMap, hS1, hpo, hneg, Nat.mul_one, hvs, List.set_set]
          refine onT_intro (by have := hok'.2; simp; omega) ?_
          simp -dsimp -implicitDefEqProofs only [aw, slots0, V.copy, V.lend, V.lend1, V.cells, V.boxable, over, bldV, boundV, rowsOf, plains, V.plain, Nat.reduceLeDiff, cond_true, cond_false, implies_true, eq_self, ne_eq, reduceIte, reduceCtorEq, Nat.reduceBEq, Nat.reduceLT, Nat.reduceEqDiff, Nat.reduceAdd, Nat.reduceSub, Nat.reduceMul, hwb]
          exact ⟨hlb, Nxt.same (by rw [hS5]; omega) (hS4 _) (by simp [slotsBelow, V.under, hS5]; exact ⟨by omega, by omega, hP.lt.2 i hik⟩) ⟨_, hfo.symm, by simp, rfl⟩⟩
        · rw [if_neg hneg] at hfo
          simp -dsimp -implicitDefEqProofs only [aw, slots0, V.copy, V.lend, V.lend1, V.cells, V.boxable, over, bldV, boundV, rowsOf, plains, V.plain, Nat.reduceLeDiff, cond_true, cond_false, implies_true, eq_self, ne_eq, reduceIte, reduceCtorEq, Nat.reduceBEq, Nat.reduceLT, Nat.reduceEqDiff, Nat.reduceAdd, Nat.reduceSub, Nat.reduceMul, Int.ofNat_lt, hlb, decide_true, hS3 _ i hik, hlC, vis_noMap, hpk, hkn, hko, vit_len, vit_noMap, hS1, hpo, hneg, decide_false, Nat.mul_one, hwb]
          exact Nxt.same (by rw [hS5]; omega) (hS4 _) (by simp [slotsBelow, V.under, hS5]; exact ⟨by omega, by omega, hP.lt.2 i hik⟩) ⟨_, hfo.symm, rfl, rfl⟩
      · rw [List.take_of_length_le (Nat.le_of_not_lt hlb)] at hs'
        simp -dsimp -implicitDefEqProofs only [aw, slots0, V.copy, V.lend, V.lend1, V.cells, V.boxable, over, bldV, boundV, rowsOf, plains, V.plain, Nat.reduceLeDiff, cond_true, cond_false, implies_true, eq_self, ne_eq, reduceIte, reduceCtorEq, Nat.reduceBEq, Nat.reduceLT, Nat.reduceEqDiff, Nat.reduceAdd, Nat.reduceSub, Nat.reduceMul, Int.ofNat_lt, hlb, decide_false, hwa]
        exact ⟨hlt, Nxt.same (by rw [hS5]; omega) (hS4 _) (by simp [slotsBelow, V.under, hS5]; omega) ⟨s', by rw [hst]; exact hs', rfl, rfl⟩⟩
  · rw [List.take_of_length_le (Nat.le_of_not_lt hlt)] at hs
    have hwj : IntKind.i64.wrap (((j + 1 : Nat) : Int) + 1) = ((j + 1 + 1 : Nat) : Int) := by rw [wrap_i64 (by omega) (by omega)]; omega
    simp -dsimp -implicitDefEqProofs only [aw, slots0, V.copy, V.lend, V.lend1, V.cells, V.boxable, over, bldV, boundV, rowsOf, plains, V.plain, Nat.reduceLeDiff, cond_true, cond_false, implies_true, eq_self, ne_eq, reduceIte, reduceCtorEq, Nat.reduceBEq, Nat.reduceLT, Nat.reduceEqDiff, Nat.reduceAdd, Nat.reduceSub, Nat.reduceMul, Int.ofNat_lt, hlt, decide_false]
    rw [hwj]
    have hbr : bround l (j + 1 : Nat) (o, fr) = s := hs.symm
    refine ⟨hjn, Nxt.same (by rw [hS5]; omega) (hS4 _) (by simp [slotsBelow, V.under, hS5]; omega) ⟨s.1, s.2, rfl, rfl, ?_, hok, ?_⟩⟩
    · have := hBI.next hl hf (by omega)
      rw [hbr] at this; exact this
    · rw [hD]
      obtain ⟨m, hm⟩ : ∃ m, n - j = m + 1 := ⟨n - j - 1, by omega⟩
      rw [hm, show n - (j + 1) = m by omega]
      show (if fr = [] then _ else bfs l m _ _) = _
      rw [if_neg hfrn, hbr]; rfl
end Go.Proofs.Ytinenohgemndiaa
