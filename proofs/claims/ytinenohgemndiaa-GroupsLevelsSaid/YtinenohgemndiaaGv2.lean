/-
  Tables of truths in boxes; the closure.
-/
import Derived.Test.YtinenohgemndiaaGv1
set_option linter.unusedVariables false
set_option linter.unusedSimpArgs false
set_option linter.unusedSectionVars false
namespace Go.Proofs.Ytinenohgemndiaa
open Go.RowKit
abbrev vbs (L : List Bool) : List V := L.map fun b => V.d (.lit (.bool b))
abbrev dbs (L : List Bool) : List (List D) := L.map fun b => [D.lit (.bool b)]
theorem vbs_set {L : List Bool} {n : Nat} (h : n < L.length) (b : Bool) : List.take n (vbs L) ++ (V.d (.lit (.bool b)) :: List.drop (n + 1) (vbs L)) = vbs (L.set n b) := by
  unfold vbs
  rw [List.set_eq_take_append_cons_drop, if_pos h, List.map_append, List.map_cons, List.map_take, List.map_drop]
theorem pk_at {cs : List V} {a : Nat} {c : V} (h : cs[a]? = some c) : packV false (List.take 1 (List.drop a cs)) = some c.copy := by
  obtain ⟨h1, h2⟩ := List.getElem?_eq_some_iff.1 h
  rw [List.drop_eq_getElem_cons h1, h2]; rfl
theorem vbs_unders (k : Nat) (L : List Bool) : V.unders k (vbs L) = true := V.unders_of fun i hi => by rw [List.getElem_map]; rfl
theorem vbs_pk {L : List Bool} {n : Nat} {b : Bool} (h : L[n]? = some b) : packV false (List.take 1 (List.drop n (vbs L))) = some (V.d (.lit (.bool b))) := pk_at (c := V.d (.lit (.bool b))) (by rw [List.getElem?_map, h]; rfl)
theorem bb_set {k i : Nat} {σ : List (List V)} {cs : List V} (h : boxesBelow k σ = true) (hc : V.unders k cs = true) : boxesBelow k (σ.set i cs) = true := by
  unfold boxesBelow at *
  rw [List.all_eq_true] at *
  intro x hx
  rcases List.mem_or_eq_of_mem_set hx with h1 | rfl
  · exact h x h1
  · exact hc
theorem take_set_ge {σ : List (List V)} {i n : Nat} (h : n ≤ i) (x : List V) : (σ.set i x).take n = σ.take n := by
  rw [List.take_set, List.set_eq_of_length_le (by simp; omega)]
theorem noMap_of {cs : List V} (h : ∀ c, c ∈ cs → ∀ st kv, c ≠ .mapc st kv) : noMap cs = true := by
  match cs, h with
  | [], _ => rfl
  | [c], h =>
    have h1 := h c (List.mem_singleton.2 rfl)
    cases c <;> first | rfl | exact (h1 _ _ rfl).elim
  | _ :: _ :: _, _ => simp
theorem refs_ok (g : Nat → Nat) (n j k : Nat) : noMap (((List.range j).map fun a => V.bsl (g a) 0 n 1) ++ List.replicate k V.nil) = true := noMap_of fun c hc st kv e => by
  subst e
  rcases List.mem_append.1 hc with h | h
  · obtain ⟨a, -, e⟩ := List.mem_map.1 h; cases e
  · cases (List.mem_replicate.1 h).2
theorem refs_grow (g : Nat → Nat) {n j : Nat} (h : j < n) : List.take j (((List.range j).map fun a => V.bsl (g a) 0 n 1) ++ List.replicate (n - j) V.nil) ++ V.bsl (g j) 0 n 1 :: List.drop (j + 1) (((List.range j).map fun a => V.bsl (g a) 0 n 1) ++ List.replicate (n - j) V.nil) = ((List.range (j + 1)).map fun a => V.bsl (g a) 0 n 1) ++ List.replicate (n - (j + 1)) V.nil := by
  have hl : ((List.range j).map fun a => V.bsl (g a) 0 n 1).length = j := by simp
  obtain ⟨m, hm⟩ : ∃ m, n - j = m + 1 := ⟨n - j - 1, by omega⟩
  rw [hm, show n - (j + 1) = m by omega, List.range_succ, List.map_append]
  generalize ((List.range j).map fun a => V.bsl (g a) 0 n 1) = A at hl ⊢
  subst hl
  rw [List.take_left, List.drop_append, List.drop_of_length_le (by simp)]
  simp [List.replicate_succ]
theorem ab0 (i : Nat) : (if (0 : Int) ≤ 0 ∧ (0 : Int) < ((2 : Nat) : Int) then some (V.ptr i (Int.toNat 0)) else none) = some (V.ptr i 0) := rfl
theorem ab1 (i : Nat) : (if (0 : Int) ≤ 1 ∧ (1 : Int) < ((2 : Nat) : Int) then some (V.ptr i (Int.toNat 1)) else none) = some (V.ptr i 1) := rfl
structure TB (n0 : Nat) (σ : List (List V)) (i n : Nat) (f : Nat → Nat) (t : List (List Bool)) : Prop where
  sq : Sq n t
  i0 : n0 ≤ i
  f0 : ∀ a, a < n → n0 ≤ f a
  hi : ∃ cs, σ[i]? = some cs ∧ noMap cs = true ∧ ∀ a, a < n → cs[a]? = some (V.bsl (f a) 0 n 1)
  row : ∀ a, a < n → σ[f a]? = some (vbs (t[a]?.getD []))
  inj : ∀ a b, a < n → b < n → f a = f b → a = b
  ni : ∀ a, a < n → f a ≠ i
  bb : boxesBelow σ.length σ = true
theorem TB.set {n0 : Nat} {σ : List (List V)} {i n : Nat} {f : Nat → Nat} {t : List (List Bool)} (h : TB n0 σ i n f t) {a : Nat} (ha : a < n) (j : Nat) (b : Bool) : TB n0 (σ.set (f a) (vbs ((t[a]?.getD []).set j b))) i n f (tset t a j b) := by
  obtain ⟨cs, h1, h2, h3⟩ := h.hi
  refine ⟨tset_sq h.sq ha j b, h.i0, h.f0, ⟨cs, by rw [List.getElem?_set_ne (h.ni a ha)]; exact h1, h2, h3⟩, fun c hc => ?_, h.inj, h.ni, by rw [List.length_set]; exact bb_set h.bb (vbs_unders _ _)⟩
  by_cases e : c = a
  · subst e
    have hl : f c < σ.length := (List.getElem?_eq_some_iff.1 (h.row c hc)).1
    rw [List.getElem?_set_self hl]
    unfold tset
    rw [List.getElem?_set_self (by rw [h.sq.len]; exact hc), Option.getD_some]
  · rw [List.getElem?_set_ne (fun e2 => e (h.inj _ _ hc ha e2.symm)), h.row c hc]
    unfold tset
    rw [List.getElem?_set_ne (Ne.symm e)]
theorem TB.lt_i {n0 : Nat} {σ : List (List V)} {i n : Nat} {f : Nat → Nat} {t : List (List Bool)} (h : TB n0 σ i n f t) : i < σ.length := by
  obtain ⟨cs, h1, -⟩ := h.hi
  exact (List.getElem?_eq_some_iff.1 h1).1
theorem take_le {σ σ' : List (List V)} (h : σ'.take σ.length = σ) : σ.length ≤ σ'.length := by
  have := congrArg List.length h
  simp at this; omega
theorem Sq.get {n : Nat} {t : List (List Bool)} (h : Sq n t) {i j : Nat} (hi : i < n) (hj : j < n) : (t[i]?.getD [])[j]? = some (tget t i j) := by
  have h1 := h.at hi
  unfold tget
  rw [List.getElem?_eq_getElem (by omega)]; rfl
def dtab (t : List (List Bool)) : D := .sl (t.map fun r => [D.sl (dbs r)])
theorem frz_bools {σ : List (List V)} {k i : Nat} {L : List Bool} (hi : k ≤ i) (hc : σ[i]? = some (vbs L)) : FrzD σ k (.bsl i 0 L.length 1) (.sl (dbs L)) := by
  refine .bsl i 0 L.length 1 (vbs L) (dbs L) hi hc (by simp) (fun r hr => ?_) (by simp) (fun r j hr hj => ?_)
  · obtain ⟨b, -, rfl⟩ := List.mem_map.1 hr; rfl
  · have hr' : r < L.length := by simpa using hr
    have hj0 : j = 0 := by simpa using hj
    subst hj0
    simp only [List.getElem_map, List.getElem_cons_zero, Nat.zero_add, Nat.mul_one, Nat.add_zero]
    rw [List.getD_eq_getElem?_getD, List.getElem?_map, List.getElem?_eq_getElem hr', Option.map_some, Option.getD_some]
    exact .d _
theorem TB.frz {n0 : Nat} {σ : List (List V)} {i n : Nat} {f : Nat → Nat} {t : List (List Bool)} (h : TB n0 σ i n f t) : FrzV σ n0 (.bsl i 0 n 1) (.d (dtab t)) := by
  obtain ⟨cs, h1, h2, h3⟩ := h.hi
  have hn : n ≤ cs.length := by
    rcases Nat.eq_zero_or_pos n with e | e
    · omega
    · have := (List.getElem?_eq_some_iff.1 (h3 (n - 1) (by omega))).1; omega
  refine .d (.bsl i 0 n 1 cs _ h.i0 h1 (by simp [h.sq.len]) (fun r hr => ?_) (by omega) (fun r j hr hj => ?_))
  · obtain ⟨b, -, rfl⟩ := List.mem_map.1 hr; rfl
  · have hr' : r < n := by rw [← h.sq.len]; simpa using hr
    have hj0 : j = 0 := by simpa using hj
    subst hj0
    simp only [List.getElem_map, List.getElem_cons_zero, Nat.zero_add, Nat.mul_one, Nat.add_zero]
    rw [List.getD_eq_getElem?_getD, h3 r hr', Option.getD_some]
    have hrow := h.row r hr'
    have hlt : r < t.length := by rw [h.sq.len]; exact hr'
    rw [List.getElem?_eq_getElem hlt, Option.getD_some] at hrow
    have hlen : (t[r]).length = n := h.sq.row _ (List.getElem_mem hlt)
    have := frz_bools (h.f0 r hr') hrow
    rw [hlen] at this
    exact this
def dprs (l : Prs) : D := drel (l.map fun p => ((p.1 : Int), (p.2 : Int)))
theorem dprs_eq (l : Prs) : dprs l = .sl (l.map fun p => [dint p.1, dint p.2]) := by unfold dprs drel; rw [List.map_map]; rfl
theorem prs_at {l : Prs} {j : Nat} {a b : Nat} (h : l[j]? = some (a, b)) : (l.map fun p => [dint (p.1 : Int), dint (p.2 : Int)])[j]? = some [dint a, dint b] := by simp [h]
theorem lt_pos {a n : Nat} (h : a < n) : a + 1 ≤ n := h
theorem foldl_take {α β : Type} (g : β → α → β) (x : β) {l : List α} {j : Nat} (h : j < l.length) : (l.take (j + 1)).foldl g x = g ((l.take j).foldl g x) l[j] := by
  rw [List.take_add_one, List.getElem?_eq_getElem h, List.foldl_append]; rfl
theorem range_fold {β : Type} (g : β → Nat → β) (x : β) {n j : Nat} (h : j < n) : (List.range (j + 1)).foldl g x = g ((List.range j).foldl g x) j := by
  rw [List.range_succ, List.foldl_append]; rfl
theorem tb_start {σ : List (List V)} (hb : boxesBelow σ.length σ = true) (n : Nat) : TB σ.length (σ ++ ((((List.range n).map fun a => V.bsl (σ.length + (a + 1)) 0 n 1) ++ List.replicate (n - n) V.nil) :: List.replicate n (vbs (List.replicate n false)))) σ.length n (fun a => σ.length + (a + 1)) (List.replicate n (List.replicate n false)) := by
  have hat : ∀ a, a < n → (List.replicate n (List.replicate n false))[a]?.getD [] = List.replicate n false := fun a ha => by simp [ha]
  refine ⟨ini_sq n, Nat.le_refl _, fun a _ => by omega, ⟨_, by rw [List.getElem?_append_right (Nat.le_refl _), Nat.sub_self σ.length]; rfl, refs_ok (fun a => σ.length + (a + 1)) n n (n - n), fun a ha => ?_⟩, fun a ha => ?_, fun a b _ _ e => by omega, fun a _ => by omega, boxesBelow_app hb ?_⟩
  · rw [Nat.sub_self, List.replicate_zero, List.append_nil]; simp [ha]
  · rw [hat a ha, List.getElem?_append_right (by omega), show σ.length + (a + 1) - σ.length = a + 1 by omega, List.getElem?_cons_succ, List.getElem?_replicate, if_pos ha]
  · rw [List.all_cons, Bool.and_eq_true]
    refine ⟨V.unders_of fun i hi => ?_, ?_⟩
    · rw [Nat.sub_self, List.replicate_zero] at *
      simp only [List.append_nil, List.length_map, List.length_range] at hi
      simp [V.under]; omega
    · rw [List.all_eq_true]
      intro c hc
      rw [(List.mem_replicate.1 hc).2]
      exact vbs_unders _ _
set_option maxHeartbeats 4000000 in
theorem closure_fun (n : Nat) (l : Prs) (hn : n ≤ 64) (hl : ∀ a b, RL l a b → a < n ∧ b < n) (hll : l.length ≤ 1000000) (σ : List (List V)) : Fun G 31 [.d (dint n), .d (dprs l)] σ (RetV (.d (dtab (clo n l))) σ) := by
  refine fun_code Try.func31 k31 rfl fun hb hw => ?_
  unfold c31
  have hi0 : (0 : Int) ≤ ((n : Nat) : Int) ∧ ((n : Nat) : Int) * ((24 : Nat) : Int) ≤ 140737488355328 := by omega
  have hi1 : (0 : Int) ≤ ((n : Nat) : Int) ∧ ((n : Nat) : Int) * ((1 : Nat) : Int) ≤ 140737488355328 := by omega
  simp -dsimp -implicitDefEqProofs only [aw, slots0, V.copy, V.lend, V.lend1, V.cells, V.boxable, over, bldV, boundV, rowsOf, plains, V.plain, Nat.reduceLeDiff, cond_true, cond_false, implies_true, eq_self, ne_eq, reduceIte, reduceCtorEq, Nat.reduceBEq, Nat.reduceLT, Nat.reduceEqDiff, Nat.reduceAdd, Nat.reduceSub, Nat.reduceMul, hi0, Int.toNat_natCast]
  -- the rows
  refine awp_forK [0, 1, 5, 15, 16] (fun (j : Nat) ρ σ' => ρ = [(0, .d (dint n)), (1, .d (dprs l)), (5, .bsl σ.length 0 n 1), (15, vint .i64 n), (16, vint .i64 j)] ∧
    σ' = σ ++ ((((List.range j).map fun a => V.bsl (σ.length + (a + 1)) 0 n 1) ++ List.replicate (n - j) V.nil) :: List.replicate j (vbs (List.replicate n false)))) n ⟨rfl, by simp⟩ ?_ _
  · rintro j ρ' σ' hj ⟨rfl, rfl⟩
    by_cases hlt : j < n
    · simp -dsimp -implicitDefEqProofs only [aw, slots0, V.copy, V.lend, V.lend1, V.cells, V.boxable, over, bldV, boundV, rowsOf, plains, V.plain, Nat.reduceLeDiff, cond_true, cond_false, implies_true, eq_self, ne_eq, reduceIte, reduceCtorEq, Nat.reduceBEq, Nat.reduceLT, Nat.reduceEqDiff, Nat.reduceAdd, Nat.reduceSub, Nat.reduceMul, Int.ofNat_lt, hlt, decide_true, hi1, Int.toNat_natCast, Nat.mul_one, wrap_nat hlt (show n ≤ 9223372036854775807 by omega)]
      refine onT_intro ⟨by simp; omega, refs_ok _ _ _ _⟩ ?_
      simp -dsimp -implicitDefEqProofs only [aw, slots0, V.copy, V.lend, V.lend1, V.cells, V.boxable, over, bldV, boundV, rowsOf, plains, V.plain, Nat.reduceLeDiff, cond_true, cond_false, implies_true, eq_self, ne_eq, reduceIte, reduceCtorEq, Nat.reduceBEq, Nat.reduceLT, Nat.reduceEqDiff, Nat.reduceAdd, Nat.reduceSub, Nat.reduceMul, wrap_nat hlt (show n ≤ 9223372036854775807 by omega)]
      refine ⟨hlt, Nxt.same (by simp) (boxesBelow_app hb ?_) (by simp [slotsBelow, V.under]) ⟨rfl, ?_⟩⟩
      · rw [List.length_replicate, refs_grow (fun a => σ.length + (a + 1)) hlt, List.all_cons, Bool.and_eq_true]
        refine ⟨V.unders_of fun i hi => ?_, ?_⟩
        · rw [List.getElem_append]
          split
          · rename_i h1; simp only [List.length_map, List.length_range] at h1; simp [V.under]; omega
          · simp [V.under]
        · rw [List.all_eq_true]
          intro c hc
          rcases List.mem_append.1 hc with hc | hc
          · rw [(List.mem_replicate.1 hc).2]; exact vbs_unders _ _
          · rw [List.mem_singleton.1 hc]; exact V.unders_of fun i hi => by rw [List.getElem_replicate]; rfl
      · rw [List.length_replicate, refs_grow (fun a => σ.length + (a + 1)) hlt, List.replicate_succ']; simp [vbs]
    · have e : n = j := by omega
      subst e
      simp -dsimp -implicitDefEqProofs only [aw, slots0, V.copy, V.lend, V.lend1, V.cells, V.boxable, over, bldV, boundV, rowsOf, plains, V.plain, Nat.reduceLeDiff, cond_true, cond_false, implies_true, eq_self, ne_eq, reduceIte, reduceCtorEq, Nat.reduceBEq, Nat.reduceLT, Nat.reduceEqDiff, Nat.reduceAdd, Nat.reduceSub, Nat.reduceMul, Int.ofNat_lt, Nat.lt_irrefl, decide_false, dprs_eq]
      obtain ⟨σ1, hσ1⟩ : ∃ σ1, σ1 = σ ++ ((((List.range n).map fun a => V.bsl (σ.length + (a + 1)) 0 n 1) ++ List.replicate (n - n) V.nil) :: List.replicate n (vbs (List.replicate n false))) := ⟨_, rfl⟩
      have hT : TB σ.length σ1 σ.length n (fun a => σ.length + (a + 1)) (List.replicate n (List.replicate n false)) := by
        subst hσ1
        exact tb_start hb n
      have htk : σ1.take σ.length = σ := by subst hσ1; exact List.take_left
      rw [← hσ1]
      clear hσ1
      generalize hf : (fun a => σ.length + (a + 1)) = f at hT
      clear hf
      -- the pairs
      refine awp_forK [0, 5, 25, 26, 27] (fun (j : Nat) ρ σ' => ρ = [(0, .d (dint n)), (5, .bsl σ.length 0 n 1), (25, .d (dprs l)), (26, vint .i64 l.length), (27, vint .i64 j)] ∧
        σ'.take σ.length = σ ∧ TB σ.length σ' σ.length n f ((l.take j).foldl (fun t p => tset t p.1 p.2 true) (List.replicate n (List.replicate n false)))) l.length ⟨by rw [dprs_eq]; rfl, htk, hT⟩ ?_ _
      clear hT htk
      rintro j ρ' σ' hj ⟨rfl, htk, hT⟩
      by_cases hlt : j < l.length
      · have hat : l[j]? = some l[j] := List.getElem?_eq_getElem hlt
        have hab := hl l[j].1 l[j].2 (List.getElem_mem hlt)
        have hfold := foldl_take (fun t (p : Nat × Nat) => tset t p.1 p.2 true) (List.replicate n (List.replicate n false)) hlt
        generalize (l.take j).foldl (fun t (p : Nat × Nat) => tset t p.1 p.2 true) (List.replicate n (List.replicate n false)) = t at hT hfold
        generalize l[j] = p at hat hab hfold
        obtain ⟨a, b⟩ := p
        obtain ⟨ha, hb2⟩ := hab
        simp only at ha hb2 hfold
        have hn' := hT.set ha b true
        rw [← hfold] at hn'
        obtain ⟨cs, hcs, hnm, hat2⟩ := hT.hi
        have hrow := hT.row a ha
        have hrl : b + 1 ≤ (t[a]?.getD []).length := by rw [hT.sq.at ha]; exact hb2
        have hle : a + 1 ≤ cs.length := (List.getElem?_eq_some_iff.1 (hat2 a ha)).1
        have hpk := pk_at (hat2 a ha)
        simp -dsimp -implicitDefEqProofs only [aw, slots0, V.copy, V.lend, V.lend1, V.cells, V.boxable, over, bldV, boundV, rowsOf, plains, V.plain, Nat.reduceLeDiff, cond_true, cond_false, implies_true, eq_self, ne_eq, reduceIte, reduceCtorEq, Nat.reduceBEq, Nat.reduceLT, Nat.reduceEqDiff, Nat.reduceAdd, Nat.reduceSub, Nat.reduceMul, Int.ofNat_lt, hlt, ha, hb2, decide_true, dprs_eq, prs_at hat, iaK_some, ab0, ab1, box_old hcs, box_old hrow, set_old hrow, hle, hnm, hpk, Nat.mul_one, wrap_nat hlt (show l.length ≤ 9223372036854775807 by omega)]
        refine onT_intro hrl ?_
        simp -dsimp -implicitDefEqProofs only [aw, slots0, V.copy, V.lend, V.lend1, V.cells, V.boxable, over, bldV, boundV, rowsOf, plains, V.plain, Nat.reduceLeDiff, cond_true, cond_false, implies_true, eq_self, ne_eq, reduceIte, reduceCtorEq, Nat.reduceBEq, Nat.reduceLT, Nat.reduceEqDiff, Nat.reduceAdd, Nat.reduceSub, Nat.reduceMul, set_old hrow, vbs_set (lt_pos hrl), wrap_nat hlt (show l.length ≤ 9223372036854775807 by omega)]
        exact ⟨hlt, Nxt.drop (by rw [List.length_set]; exact take_le htk) hn'.bb (by simp [slotsBelow, V.under]; exact hT.lt_i) ⟨by rw [dprs_eq], by rw [take_set_ge (hT.f0 a ha)]; exact htk, hn'⟩⟩
      · simp -dsimp -implicitDefEqProofs only [aw, slots0, V.copy, V.lend, V.lend1, V.cells, V.boxable, over, bldV, boundV, rowsOf, plains, V.plain, Nat.reduceLeDiff, cond_true, cond_false, implies_true, eq_self, ne_eq, reduceIte, reduceCtorEq, Nat.reduceBEq, Nat.reduceLT, Nat.reduceEqDiff, Nat.reduceAdd, Nat.reduceSub, Nat.reduceMul, Int.ofNat_lt, hlt, decide_false]
        rw [List.take_of_length_le (by omega)] at hT
        have hT : TB σ.length σ' σ.length n f (ini n l) := hT
        -- the sums
        refine awp_forK [0, 5, 40, 41] (fun (k : Nat) ρ σ' => ρ = [(0, .d (dint n)), (5, .bsl σ.length 0 n 1), (40, vint .i64 n), (41, vint .i64 k)] ∧ σ'.take σ.length = σ ∧ TB σ.length σ' σ.length n f ((List.range k).foldl (fun t k => wcol n k t) (ini n l))) n ⟨rfl, htk, hT⟩ ?_ _
        clear hT htk hlt hj
        rintro k ρ' σ' hk ⟨rfl, htk, hT⟩
        by_cases hkn : k < n
        · have hfk := range_fold (fun t k => wcol n k t) (ini n l) hkn
          generalize (List.range k).foldl (fun t k => wcol n k t) (ini n l) = tk at hT hfk
          simp -dsimp -implicitDefEqProofs only [aw, slots0, V.copy, V.lend, V.lend1, V.cells, V.boxable, over, bldV, boundV, rowsOf, plains, V.plain, Nat.reduceLeDiff, cond_true, cond_false, implies_true, eq_self, ne_eq, reduceIte, reduceCtorEq, Nat.reduceBEq, Nat.reduceLT, Nat.reduceEqDiff, Nat.reduceAdd, Nat.reduceSub, Nat.reduceMul, Int.ofNat_lt, hkn, decide_true]
          refine awp_forK [0, 5, 9, 40, 41, 44, 45] (fun (a : Nat) ρ σ' => ρ = [(0, .d (dint n)), (5, .bsl σ.length 0 n 1), (9, vint .i64 k), (40, vint .i64 n), (41, vint .i64 k), (44, vint .i64 n), (45, vint .i64 a)] ∧ σ'.take σ.length = σ ∧ TB σ.length σ' σ.length n f ((List.range a).foldl (fun t i => wrow n k i t) tk)) n ⟨rfl, htk, hT⟩ ?_ _
          clear hT htk
          rintro a ρ' σ' ha' ⟨rfl, htk, hT⟩
          by_cases ha : a < n
          · have hfa := range_fold (fun t i => wrow n k i t) tk ha
            generalize (List.range a).foldl (fun t i => wrow n k i t) tk = ta at hT hfa
            simp -dsimp -implicitDefEqProofs only [aw, slots0, V.copy, V.lend, V.lend1, V.cells, V.boxable, over, bldV, boundV, rowsOf, plains, V.plain, Nat.reduceLeDiff, cond_true, cond_false, implies_true, eq_self, ne_eq, reduceIte, reduceCtorEq, Nat.reduceBEq, Nat.reduceLT, Nat.reduceEqDiff, Nat.reduceAdd, Nat.reduceSub, Nat.reduceMul, Int.ofNat_lt, ha, decide_true]
            refine awp_forK [0, 5, 9, 10, 40, 41, 44, 45, 48, 49] (fun (b : Nat) ρ σ' => ρ = [(0, .d (dint n)), (5, .bsl σ.length 0 n 1), (9, vint .i64 k), (10, vint .i64 a), (40, vint .i64 n), (41, vint .i64 k), (44, vint .i64 n), (45, vint .i64 a), (48, vint .i64 n), (49, vint .i64 b)] ∧ σ'.take σ.length = σ ∧ TB σ.length σ' σ.length n f ((List.range b).foldl (fun t j => wst k a j t) ta)) n ⟨rfl, htk, hT⟩ ?_ _
            clear hT htk
            rintro b ρ' σ' hb' ⟨rfl, htk, hT⟩
            by_cases hbn : b < n
            · have hfb := range_fold (fun t j => wst k a j t) ta hbn
              generalize (List.range b).foldl (fun t j => wst k a j t) ta = t at hT hfb
              have hw1 : ∀ v, v = (tget t a b || tget t a k && tget t k b) → TB σ.length (σ'.set (f a) (vbs ((t[a]?.getD []).set b v))) σ.length n f ((List.range (b + 1)).foldl (fun t j => wst k a j t) ta) := fun v hv => by
                rw [hfb, hv]; exact hT.set ha b _
              obtain ⟨cs, hcs, hnm, hat2⟩ := hT.hi
              have hra := hT.row a ha
              have hrk := hT.row k hkn
              have lb : b + 1 ≤ (t[a]?.getD []).length := by rw [hT.sq.at ha]; exact hbn
              have lk : k + 1 ≤ (t[a]?.getD []).length := by rw [hT.sq.at ha]; exact hkn
              have lb2 : b + 1 ≤ (t[k]?.getD []).length := by rw [hT.sq.at hkn]; exact hbn
              have hla : a + 1 ≤ cs.length := (List.getElem?_eq_some_iff.1 (hat2 a ha)).1
              have hlk : k + 1 ≤ cs.length := (List.getElem?_eq_some_iff.1 (hat2 k hkn)).1
              have hpa := pk_at (hat2 a ha)
              have hpk := pk_at (hat2 k hkn)
              have v1 := vbs_pk (hT.sq.get ha hbn)
              have v2 := vbs_pk (hT.sq.get ha hkn)
              have v3 := vbs_pk (hT.sq.get hkn hbn)
              have hset := hT.f0 a ha
              have hlen := take_le htk
              have hli := hT.lt_i
              clear hT hat2
              have step : ∀ v, v = (tget t a b || tget t a k && tget t k b) → b < n ∧ Nxt σ.length (fun ρ σ' => ρ = [(0, .d (dint n)), (5, .bsl σ.length 0 n 1), (9, vint .i64 k), (10, vint .i64 a), (40, vint .i64 n), (41, vint .i64 k), (44, vint .i64 n), (45, vint .i64 a), (48, vint .i64 n), (49, vint .i64 (b + 1 : Nat))] ∧ σ'.take σ.length = σ ∧ TB σ.length σ' σ.length n f ((List.range (b + 1)).foldl (fun t j => wst k a j t) ta))
                  [(0, .d (dint n)), (5, .bsl σ.length 0 n 1), (9, vint .i64 k), (10, vint .i64 a), (40, vint .i64 n), (41, vint .i64 k), (44, vint .i64 n), (45, vint .i64 a), (48, vint .i64 n), (49, vint .i64 (b + 1 : Nat))] (σ'.set (f a) (vbs ((t[a]?.getD []).set b v))) .mk := fun v hv => by
                have := hw1 v hv
                exact ⟨hbn, Nxt.same (by rw [List.length_set]; exact hlen) this.bb (by simp [slotsBelow, V.under]; exact hli) ⟨rfl, by rw [take_set_ge hset]; exact htk, this⟩⟩
              cases b1 : tget t a b
              · rw [b1] at v1 step
                cases b2 : tget t a k
                · rw [b2] at v2 step
                  simp -dsimp -implicitDefEqProofs only [aw, slots0, V.copy, V.lend, V.lend1, V.cells, V.boxable, over, bldV, boundV, rowsOf, plains, V.plain, Nat.reduceLeDiff, cond_true, cond_false, implies_true, eq_self, ne_eq, reduceIte, reduceCtorEq, Nat.reduceBEq, Nat.reduceLT, Nat.reduceEqDiff, Nat.reduceAdd, Nat.reduceSub, Nat.reduceMul, Int.ofNat_lt, ha, hbn, hkn, decide_true, hcs, hra, hrk, hla, hlk, hnm, hpa, hpk, lb, lk, lb2, v1, v2, v3, Nat.mul_one, vbs_set (lt_pos lb), wrap_nat hbn (show n ≤ 9223372036854775807 by omega)]
                  exact (step _ rfl).2
                · rw [b2] at v2 step
                  cases b3 : tget t k b
                  · rw [b3] at v3 step
                    simp -dsimp -implicitDefEqProofs only [aw, slots0, V.copy, V.lend, V.lend1, V.cells, V.boxable, over, bldV, boundV, rowsOf, plains, V.plain, Nat.reduceLeDiff, cond_true, cond_false, implies_true, eq_self, ne_eq, reduceIte, reduceCtorEq, Nat.reduceBEq, Nat.reduceLT, Nat.reduceEqDiff, Nat.reduceAdd, Nat.reduceSub, Nat.reduceMul, Int.ofNat_lt, ha, hbn, hkn, decide_true, hcs, hra, hrk, hla, hlk, hnm, hpa, hpk, lb, lk, lb2, v1, v2, v3, Nat.mul_one, vbs_set (lt_pos lb), wrap_nat hbn (show n ≤ 9223372036854775807 by omega)]
                    exact (step _ rfl).2
                  · rw [b3] at v3 step
                    simp -dsimp -implicitDefEqProofs only [aw, slots0, V.copy, V.lend, V.lend1, V.cells, V.boxable, over, bldV, boundV, rowsOf, plains, V.plain, Nat.reduceLeDiff, cond_true, cond_false, implies_true, eq_self, ne_eq, reduceIte, reduceCtorEq, Nat.reduceBEq, Nat.reduceLT, Nat.reduceEqDiff, Nat.reduceAdd, Nat.reduceSub, Nat.reduceMul, Int.ofNat_lt, ha, hbn, hkn, decide_true, hcs, hra, hrk, hla, hlk, hnm, hpa, hpk, lb, lk, lb2, v1, v2, v3, Nat.mul_one, vbs_set (lt_pos lb), wrap_nat hbn (show n ≤ 9223372036854775807 by omega)]
                    exact (step _ rfl).2
              · rw [b1] at v1 step
                simp -dsimp -implicitDefEqProofs only [aw, slots0, V.copy, V.lend, V.lend1, V.cells, V.boxable, over, bldV, boundV, rowsOf, plains, V.plain, Nat.reduceLeDiff, cond_true, cond_false, implies_true, eq_self, ne_eq, reduceIte, reduceCtorEq, Nat.reduceBEq, Nat.reduceLT, Nat.reduceEqDiff, Nat.reduceAdd, Nat.reduceSub, Nat.reduceMul, Int.ofNat_lt, ha, hbn, hkn, decide_true, hcs, hra, hrk, hla, hlk, hnm, hpa, hpk, lb, lk, lb2, v1, v2, v3, Nat.mul_one, vbs_set (lt_pos lb), wrap_nat hbn (show n ≤ 9223372036854775807 by omega)]
                exact (step _ rfl).2
            · have e : n = b := by omega
              subst e
              simp -dsimp -implicitDefEqProofs only [aw, slots0, V.copy, V.lend, V.lend1, V.cells, V.boxable, over, bldV, boundV, rowsOf, plains, V.plain, Nat.reduceLeDiff, cond_true, cond_false, implies_true, eq_self, ne_eq, reduceIte, reduceCtorEq, Nat.reduceBEq, Nat.reduceLT, Nat.reduceEqDiff, Nat.reduceAdd, Nat.reduceSub, Nat.reduceMul, Int.ofNat_lt, Nat.lt_irrefl, decide_false, wrap_nat ha (show n ≤ 9223372036854775807 by omega)]
              exact ⟨ha, Nxt.same (take_le htk) hT.bb (by simp [slotsBelow, V.under]; exact hT.lt_i) ⟨rfl, htk, by rw [hfa]; exact hT⟩⟩
          · have e : n = a := by omega
            subst e
            simp -dsimp -implicitDefEqProofs only [aw, slots0, V.copy, V.lend, V.lend1, V.cells, V.boxable, over, bldV, boundV, rowsOf, plains, V.plain, Nat.reduceLeDiff, cond_true, cond_false, implies_true, eq_self, ne_eq, reduceIte, reduceCtorEq, Nat.reduceBEq, Nat.reduceLT, Nat.reduceEqDiff, Nat.reduceAdd, Nat.reduceSub, Nat.reduceMul, Int.ofNat_lt, Nat.lt_irrefl, decide_false, wrap_nat hkn (show n ≤ 9223372036854775807 by omega)]
            exact ⟨hkn, Nxt.same (take_le htk) hT.bb (by simp [slotsBelow, V.under]; exact hT.lt_i) ⟨rfl, htk, by rw [hfk]; exact hT⟩⟩
        · have e : n = k := by omega
          subst e
          simp -dsimp -implicitDefEqProofs only [aw, slots0, V.copy, V.lend, V.lend1, V.cells, V.boxable, over, bldV, boundV, rowsOf, plains, V.plain, Nat.reduceLeDiff, cond_true, cond_false, implies_true, eq_self, ne_eq, reduceIte, reduceCtorEq, Nat.reduceBEq, Nat.reduceLT, Nat.reduceEqDiff, Nat.reduceAdd, Nat.reduceSub, Nat.reduceMul, Int.ofNat_lt, Nat.lt_irrefl, decide_false]
          exact fin_frz [(4, .d (dtab (clo n l)))] hb htk (fun p hp => by rw [List.mem_singleton.1 hp]; exact hT.frz) rfl rfl ⟨rfl, rfl⟩
end Go.Proofs.Ytinenohgemndiaa
