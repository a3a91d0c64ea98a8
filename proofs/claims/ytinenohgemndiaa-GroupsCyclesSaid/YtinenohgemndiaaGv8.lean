/-
  The reference's cycle.
-/
import Derived.Test.YtinenohgemndiaaGv7
set_option linter.unusedVariables false
set_option linter.unusedSimpArgs false
set_option linter.unusedSectionVars false
namespace Go.Proofs.Ytinenohgemndiaa
open Go.RowKit
theorem pairB_eq (l : Prs) (a b : Nat) : pairB l a b = l.contains (a, b) := by
  rw [Bool.eq_iff_iff]
  unfold pairB
  rw [List.any_eq_true, List.contains_iff_mem]
  constructor
  · rintro ⟨⟨x, y⟩, h1, h2⟩
    simp only [Bool.and_eq_true, decide_eq_true_eq] at h2
    obtain ⟨rfl, rfl⟩ := h2
    exact h1
  · intro h
    exact ⟨_, h, by simp⟩
theorem least_lt {n : Nat} {p : Nat → Bool} (h : least n p < n) : p (least n p) = true ∧ ∀ j, j < least n p → p j = false := by
  unfold least at h ⊢
  cases hf : (List.range n).find? p with
  | none => rw [hf] at h; simp at h
  | some x =>
    rw [hf] at h
    simp only [Option.getD_some] at h ⊢
    have h1 := List.find?_some hf
    have hx := least_spec (n := n) h h1
    unfold least at hx
    rw [hf] at hx
    exact ⟨h1, hx.2.2⟩
theorem back_get {n : Nat} {l : Prs} {dv : Nat → Option Nat} : ∀ (k a j : Nat), j < k → ∃ x y, (a :: back n l dv k a)[j]? = some x ∧ (a :: back n l dv k a)[j + 1]? = some y ∧ y = least n fun i => l.contains (x, i) && dv i == some (k - j)
  | k + 1, a, 0, _ => ⟨a, _, rfl, rfl, rfl⟩
  | k + 1, a, j + 1, h => by
    obtain ⟨x, y, h1, h2, h3⟩ := back_get (n := n) (l := l) (dv := dv) k (least n fun i => l.contains (a, i) && dv i == some (k + 1)) j (by omega)
    exact ⟨x, y, h1, h2, by rw [h3]; congr 1; funext i; rw [show k + 1 - (j + 1) = k - j by omega]⟩
def dvr (n : Nat) (D : List Nat) (v : Nat) : Option Nat := if at0 D v = n + 1 then none else some (at0 D v)
theorem dvr_dv {l : Prs} {n f : Nat} (hl : ∀ a b, RL l a b → a < n ∧ b < n) (hf : f < n) : DV l n f (dvr n (dsts l n (dist0 n f))) := fun v hv => by
  unfold dvr
  rcases dsts_spec hl hf v hv with ⟨m, h1, h2, h3⟩ | ⟨h1, h2⟩
  · refine .inl ⟨m, ?_, h2⟩
    have h3' : at0 (dsts l n (dist0 n f)) v = m := h3
    rw [h3', if_neg (by omega)]
  · refine .inr ⟨?_, h1⟩
    have h2' : at0 (dsts l n (dist0 n f)) v = n + 1 := h2
    rw [h2', if_pos rfl]
theorem dvr_iff {n m : Nat} (D : List Nat) (v : Nat) (h : m ≤ n) : (dvr n D v == some m) = decide (at0 D v = m) := by
  unfold dvr
  split
  · rename_i e; rw [e, decide_eq_false (by omega)]; rfl
  · rw [Bool.eq_iff_iff]; simp
def fsti (n : Nat) (t : List (List Bool)) (lo : Nat) : Int := match ((List.range n).drop lo).find? (fun i => tget t i i) with | some i => (i : Int) | none => -1
theorem fsti_step {n lo : Nat} {t : List (List Bool)} (h : lo < n) : fsti n t lo = if tget t lo lo = true then (lo : Int) else fsti n t (lo + 1) := by
  unfold fsti
  rw [List.drop_eq_getElem_cons (by simpa using h)]
  simp only [List.getElem_range, List.find?_cons]
  cases tget t lo lo <;> simp
theorem fsti_end (n : Nat) (t : List (List Bool)) : fsti n t n = -1 := by
  unfold fsti
  rw [List.drop_eq_nil_of_le (by simp)]; rfl
def minD (l : Prs) (f : Nat) (D : List Nat) (a i : Nat) : Nat := if pairB l f i = true ∧ at0 D i + 1 < a then at0 D i + 1 else a
def lenD (n : Nat) (l : Prs) (f : Nat) (D : List Nat) : Nat := (List.range n).foldl (minD l f D) (n + 1)
theorem lenD_spec {l : Prs} {n f L : Nat} {D : List Nat} (hl : ∀ a b, RL l a b → a < n ∧ b < n) (hd : DV l n f (dvr n D)) (hL : CLen (RL l) f L) (hLn : L ≤ n) : lenD n l f D = L := by
  have key : ∀ k, k ≤ n → let x := (List.range k).foldl (minD l f D) (n + 1); L ≤ x ∧ (∀ i, i < k → pairB l f i = true → x ≤ at0 D i + 1) := by
    intro k
    induction k with
    | zero => intro _; exact ⟨by show L ≤ n + 1; omega, fun i hi => by omega⟩
    | succ k ih =>
      intro hk
      obtain ⟨h1, h2⟩ := ih (by omega)
      simp only [range_fold (minD l f D) (n + 1) (show k < k + 1 by omega)]
      generalize (List.range k).foldl (minD l f D) (n + 1) = x at h1 h2
      unfold minD
      split
      · rename_i hc
        obtain ⟨hc1, hc2⟩ := hc
        have hr : RL l f k := by rw [pairB_eq, List.contains_iff_mem] at hc1; exact hc1
        refine ⟨?_, fun i hi hp => ?_⟩
        · rcases hd k (by omega) with ⟨m, g1, g2⟩ | ⟨g1, -⟩
          · have := hL.2.2 k m hr g2
            unfold dvr at g1
            split at g1
            · cases g1
            · have g5 := Option.some.inj g1; omega
          · unfold dvr at g1
            split at g1
            · omega
            · cases g1
        · by_cases e : i = k
          · subst e; omega
          · have := h2 i (by omega) hp; omega
      · rename_i hc
        refine ⟨h1, fun i hi hp => ?_⟩
        by_cases e : i = k
        · subst e
          apply Classical.byContradiction
          intro hh
          exact hc ⟨hp, by omega⟩
        · exact h2 i (by omega) hp
  obtain ⟨h1, h2⟩ := key n (Nat.le_refl _)
  obtain ⟨w, hw, hdw⟩ := hL.2.1
  have hwn := (hl _ _ hw).2
  have h3 := h2 w hwn (by rw [pairB_eq, List.contains_iff_mem]; exact hw)
  have h4 := (hd.iff hwn _).2 hdw
  unfold dvr at h4
  split at h4
  · cases h4
  · have h5 := Option.some.inj h4
    have := hL.1
    show (List.range n).foldl (minD l f D) (n + 1) = L
    omega
theorem cst_at {L : List Nat} {i : Nat} (h : i < L.length) : (cst L)[i]? = some ((at0 L i : Nat) : Int) := by
  unfold at0
  rw [List.getElem?_map, List.getElem?_eq_getElem h]; rfl
theorem dsts_len (l : Prs) : ∀ (k : Nat) (lv : List Nat), (dsts l k lv).length = lv.length
  | 0, _ => rfl
  | k + 1, lv => by
    rw [dsts_succ]
    have : ∀ (q : Prs) (x : List Nat), (q.foldl dst1 x).length = x.length := by
      intro q; induction q with
      | nil => intro x; rfl
      | cons p q ih => intro x; rw [List.foldl_cons, ih, dst1_len]
    rw [this, dsts_len l k]
theorem fsti_lt {n : Nat} {t : List (List Bool)} : ∀ {k lo : Nat}, n - lo = k → lo ≤ n → fsti n t lo < 0 ∨ ∃ f : Nat, fsti n t lo = f ∧ lo ≤ f ∧ f < n ∧ tget t f f = true ∧ ∀ j, lo ≤ j → j < f → tget t j j = false
  | 0, lo, h, hl => by rw [show lo = n by omega, fsti_end]; exact .inl (by decide)
  | k + 1, lo, h, hl => by
    rw [fsti_step (show lo < n by omega)]
    cases e : tget t lo lo
    · rw [if_neg (by simp)]
      rcases fsti_lt (n := n) (t := t) (k := k) (lo := lo + 1) (by omega) (by omega) with h1 | ⟨f, h1, h2, h3, h4, h5⟩
      · exact .inl h1
      · refine .inr ⟨f, h1, by omega, h3, h4, fun j g1 g2 => ?_⟩
        by_cases e' : j = lo
        · rw [e']; exact e
        · exact h5 j (by omega) g2
    · rw [if_pos rfl]
      exact .inr ⟨lo, rfl, Nat.le_refl _, by omega, e, fun j g1 g2 => by omega⟩
def cycR (n : Nat) (l : Prs) : List Nat :=
  if fsti n (clo n l) 0 < 0 then [] else
    let f := (fsti n (clo n l) 0).toNat
    let D := dsts l n (dist0 n f)
    cyc n l (dvr n D) f (lenD n l f D)
theorem refcycle_no (n : Int) (l : Rw) (hl : l.length ≤ 1000000) (hv : validR n l = false) (σ : List (List V)) : Fun G 16 [.d (dint n), .d (drel l)] σ (RetV (.d (dints [])) σ) := by
  refine fun_code Try.func16 k16 rfl fun hb hw => ?_
  unfold c16
  simp -dsimp -implicitDefEqProofs only [aw, slots0, V.copy, V.lend, V.lend1, V.cells, V.boxable, over, bldV, boundV, rowsOf, plains, V.plain, Nat.reduceLeDiff, cond_true, cond_false, implies_true, eq_self, ne_eq, reduceIte, reduceCtorEq, Nat.reduceBEq, Nat.reduceLT, Nat.reduceEqDiff, Nat.reduceAdd, Nat.reduceSub, Nat.reduceMul]
  refine fun_ret (refReach_fun n l hl _) ?_
  rw [reach_no hv]
  unfold dtab
  simp -dsimp -implicitDefEqProofs only [aw, slots0, V.copy, V.lend, V.lend1, V.cells, V.boxable, over, bldV, boundV, rowsOf, plains, V.plain, Nat.reduceLeDiff, cond_true, cond_false, implies_true, eq_self, ne_eq, reduceIte, reduceCtorEq, Nat.reduceBEq, Nat.reduceLT, Nat.reduceEqDiff, Nat.reduceAdd, Nat.reduceSub, Nat.reduceMul, wrap_i64 (show (-9223372036854775808 : Int) ≤ -1 by decide) (show (-1 : Int) < 9223372036854775808 by decide)]
  refine awp_forK [0, 1, 6, 7] (fun (j : Nat) ρ σ' => ρ = [(0, .d (dint n)), (1, .d (drel l)), (6, vint .i64 (-1)), (7, vint .i64 (-1))] ∧ σ' = σ) 0 ⟨rfl, rfl⟩ ?_ _
  rintro j ρ' σ' hj ⟨rfl, rfl⟩
  simp -dsimp -implicitDefEqProofs only [aw, slots0, V.copy, V.lend, V.lend1, V.cells, V.boxable, over, bldV, boundV, rowsOf, plains, V.plain, Nat.reduceLeDiff, cond_true, cond_false, implies_true, eq_self, ne_eq, reduceIte, reduceCtorEq, Nat.reduceBEq, Nat.reduceLT, Nat.reduceEqDiff, Nat.reduceAdd, Nat.reduceSub, Nat.reduceMul, Int.reduceLE, Int.reduceLT, decide_false, decide_true]
  first | exact fin_ret hb rfl rfl List.take_length ⟨rfl, rfl⟩ | exact fin_ret hb rfl rfl List.take_left ⟨rfl, rfl⟩ | (trace_state; fail "fin")
set_option maxHeartbeats 4000000 in
theorem refcycle_fun (n : Nat) (l : Prs) (hn : n ≤ 64) (hl : ∀ a b, RL l a b → a < n ∧ b < n) (hll : l.length ≤ 1000000) (hv : validR n (l.map fun q => ((q.1 : Int), (q.2 : Int))) = true) (σ : List (List V)) : Fun G 16 [.d (dint n), .d (dprs l)] σ (RetV (.d (dints (cst (cycR n l)))) σ) := by
  refine fun_code Try.func16 k16 rfl fun hb hw => ?_
  unfold c16
  simp -dsimp -implicitDefEqProofs only [aw, slots0, V.copy, V.lend, V.lend1, V.cells, V.boxable, over, bldV, boundV, rowsOf, plains, V.plain, Nat.reduceLeDiff, cond_true, cond_false, implies_true, eq_self, ne_eq, reduceIte, reduceCtorEq, Nat.reduceBEq, Nat.reduceLT, Nat.reduceEqDiff, Nat.reduceAdd, Nat.reduceSub, Nat.reduceMul]
  refine fun_ret (refReach_fun n _ (by simpa using hll) _) ?_
  rw [reach_yes hv]
  obtain ⟨ht, hcl⟩ := clo_get hl
  unfold cycR
  generalize clo n l = t at ht hcl
  have htl := ht.len
  have hw0 : IntKind.i64.wrap ((n : Int) - 1) = (n : Int) - 1 := wrap_i64 (by omega) (by omega)
  have hdt : dtab t = .sl (t.map fun r => [D.sl (dbs r)]) := rfl
  rw [hdt]
  simp -dsimp -implicitDefEqProofs only [aw, slots0, V.copy, V.lend, V.lend1, V.cells, V.boxable, over, bldV, boundV, rowsOf, plains, V.plain, Nat.reduceLeDiff, cond_true, cond_false, implies_true, eq_self, ne_eq, reduceIte, reduceCtorEq, Nat.reduceBEq, Nat.reduceLT, Nat.reduceEqDiff, Nat.reduceAdd, Nat.reduceSub, Nat.reduceMul, List.length_map, htl, hw0]
  refine awp_forK [0, 1, 5, 6, 7] (fun (j : Nat) ρ σ' => ρ = [(0, .d (dint n)), (1, .d (dprs l)), (5, .d (.sl (t.map fun r => [D.sl (dbs r)]))), (6, .d (dint (fsti n t (n - j)))), (7, .d (dint ((n : Int) - 1 - (j : Int))))] ∧ σ' = σ) n ⟨by rw [Nat.sub_zero, fsti_end]; simp [get, keepOnly], rfl⟩ ?_ _
  rintro j ρ' σ' hj ⟨rfl, rfl⟩
  by_cases hlt : j < n
  · have hi : (n : Int) - 1 - (j : Int) = ((n - 1 - j : Nat) : Int) := by omega
    have hge : (0 : Int) ≤ ((n - 1 - j : Nat) : Int) := by omega
    have hin : n - 1 - j < n := by omega
    have hst := fsti_step (t := t) hin
    have hw1 : IntKind.i64.wrap (((n - 1 - j : Nat) : Int) - 1) = (n : Int) - 1 - ((j + 1 : Nat) : Int) := by rw [wrap_i64 (by omega) (by omega)]; omega
    rw [show n - 1 - j + 1 = n - j by omega] at hst
    rw [hi]
    have e2 : n - (j + 1) = n - 1 - j := by omega
    have hlj : t[n - 1 - j]? = some (t[n - 1 - j]?.getD []) := by rw [List.getElem?_eq_getElem (by rw [ht.len]; exact hin)]; rfl
    have g1 := dbs_at (ht.get hin hin)
    generalize n - 1 - j = i at *
    cases b1 : tget t i i
    · rw [b1] at g1 hst
      rw [if_neg (by simp)] at hst
      simp -dsimp -implicitDefEqProofs only [aw, slots0, V.copy, V.lend, V.lend1, V.cells, V.boxable, over, bldV, boundV, rowsOf, plains, V.plain, Nat.reduceLeDiff, cond_true, cond_false, implies_true, eq_self, ne_eq, reduceIte, reduceCtorEq, Nat.reduceBEq, Nat.reduceLT, Nat.reduceEqDiff, Nat.reduceAdd, Nat.reduceSub, Nat.reduceMul, hge, decide_true, tab_at hlj, iaK_some, g1, hw1]
      exact ⟨hlt, Nxt.same (Nat.le_refl _) hb rfl ⟨by rw [e2, hst], rfl⟩⟩
    · rw [b1] at g1 hst
      rw [if_pos rfl] at hst
      simp -dsimp -implicitDefEqProofs only [aw, slots0, V.copy, V.lend, V.lend1, V.cells, V.boxable, over, bldV, boundV, rowsOf, plains, V.plain, Nat.reduceLeDiff, cond_true, cond_false, implies_true, eq_self, ne_eq, reduceIte, reduceCtorEq, Nat.reduceBEq, Nat.reduceLT, Nat.reduceEqDiff, Nat.reduceAdd, Nat.reduceSub, Nat.reduceMul, hge, decide_true, tab_at hlj, iaK_some, g1, hw1]
      exact ⟨hlt, Nxt.same (Nat.le_refl _) hb rfl ⟨by rw [e2, hst], rfl⟩⟩
  have e : n = j := by omega
  subst e
  rw [show (n : Int) - 1 - (n : Int) = -1 by omega, Nat.sub_self]
  rcases fsti_lt (n := n) (t := t) (k := n) (lo := 0) (by omega) (by omega) with hF | ⟨f, hF, -, hf, hff, -⟩
  · rw [if_pos hF]
    simp -dsimp -implicitDefEqProofs only [aw, slots0, V.copy, V.lend, V.lend1, V.cells, V.boxable, over, bldV, boundV, rowsOf, plains, V.plain, Nat.reduceLeDiff, cond_true, cond_false, implies_true, eq_self, ne_eq, reduceIte, reduceCtorEq, Nat.reduceBEq, Nat.reduceLT, Nat.reduceEqDiff, Nat.reduceAdd, Nat.reduceSub, Nat.reduceMul, Int.reduceLE, decide_false, hF, decide_true]
    exact fin_ret hb rfl rfl List.take_length ⟨rfl, rfl⟩
  rw [hF, if_neg (by omega)]
  have hnf : ¬ ((f : Nat) : Int) < 0 := by omega
  simp -dsimp -implicitDefEqProofs only [aw, slots0, V.copy, V.lend, V.lend1, V.cells, V.boxable, over, bldV, boundV, rowsOf, plains, V.plain, Nat.reduceLeDiff, cond_true, cond_false, implies_true, eq_self, ne_eq, reduceIte, reduceCtorEq, Nat.reduceBEq, Nat.reduceLT, Nat.reduceEqDiff, Nat.reduceAdd, Nat.reduceSub, Nat.reduceMul, Int.reduceLE, decide_false, hnf]
  refine fun_ret (refdist_fun n f l hn hf hl hll _) ?_
  simp only [Int.toNat_natCast]
  have hdv := dvr_dv (n := n) (f := f) hl hf
  have hDl : (dsts l n (dist0 n f)).length = n := by rw [dsts_len]; simp [dist0]
  have hDb : ∀ v, v < n → at0 (dsts l n (dist0 n f)) v ≤ n + 1 := fun v hv => by
    rcases dsts_spec hl hf v hv with ⟨m, h1, h2, h3⟩ | ⟨h1, h2⟩
    · have h3' : at0 (dsts l n (dist0 n f)) v = m := h3
      omega
    · have h2' : at0 (dsts l n (dist0 n f)) v = n + 1 := h2
      omega
  obtain ⟨L, hL, hLn⟩ := clen_ex hl ((hcl f f hf hf).1 hff)
  have hlen : lenD n l f (dsts l n (dist0 n f)) = L := lenD_spec hl hdv hL hLn
  have hdi := fun v m h => dvr_iff (n := n) (m := m) (dsts l n (dist0 n f)) v h
  obtain ⟨c1, c2, -⟩ := cyc_spec hl hdv hL
  rw [hlen]
  generalize dsts l n (dist0 n f) = D at hdv hDl hDb hlen hdi c1 c2
  have hw1 : IntKind.i64.wrap ((n : Int) + 1) = ((n + 1 : Nat) : Int) := by rw [wrap_i64 (by omega) (by omega)]; omega
  simp -dsimp -implicitDefEqProofs only [aw, slots0, V.copy, V.lend, V.lend1, V.cells, V.boxable, over, bldV, boundV, rowsOf, plains, V.plain, Nat.reduceLeDiff, cond_true, cond_false, implies_true, eq_self, ne_eq, reduceIte, reduceCtorEq, Nat.reduceBEq, Nat.reduceLT, Nat.reduceEqDiff, Nat.reduceAdd, Nat.reduceSub, Nat.reduceMul, hw1]
  refine awp_forK [0, 1, 6, 8, 9, 10] (fun (j : Nat) ρ τ => ρ = [(0, .d (dint n)), (1, .d (dprs l)), (6, .d (dint (f : Nat))), (8, .d (dints (cst D))), (9, .d (dint (((List.range j).foldl (minD l f D) (n + 1) : Nat)))), (10, vint .i64 j)] ∧ σ' = τ) n ⟨rfl, rfl⟩ ?_ _
  rintro j ρ' τ hj ⟨rfl, rfl⟩
  by_cases hlt : j < n
  · have hfo := range_fold (minD l f D) (n + 1) hlt
    generalize (List.range j).foldl (minD l f D) (n + 1) = a at hfo
    have hd := ints_at (cst_at (L := D) (i := j) (by omega))
    have hbd := hDb j hlt
    have hw2 : IntKind.i64.wrap (((at0 D j : Nat) : Int) + 1) = ((at0 D j + 1 : Nat) : Int) := by rw [wrap_i64 (by omega) (by omega)]; omega
    simp -dsimp -implicitDefEqProofs only [aw, slots0, V.copy, V.lend, V.lend1, V.cells, V.boxable, over, bldV, boundV, rowsOf, plains, V.plain, Nat.reduceLeDiff, cond_true, cond_false, implies_true, eq_self, ne_eq, reduceIte, reduceCtorEq, Nat.reduceBEq, Nat.reduceLT, Nat.reduceEqDiff, Nat.reduceAdd, Nat.reduceSub, Nat.reduceMul, Int.ofNat_lt, hlt, decide_true]
    refine fun_ret (pair_fun l f j hll _) ?_
    rw [show minD l f D a j = if pairB l f j = true ∧ at0 D j + 1 < a then at0 D j + 1 else a from rfl] at hfo
    cases b1 : pairB l f j
    · rw [b1] at hfo
      rw [if_neg (by simp)] at hfo
      unfold dints
      simp -dsimp -implicitDefEqProofs only [aw, slots0, V.copy, V.lend, V.lend1, V.cells, V.boxable, over, bldV, boundV, rowsOf, plains, V.plain, Nat.reduceLeDiff, cond_true, cond_false, implies_true, eq_self, ne_eq, reduceIte, reduceCtorEq, Nat.reduceBEq, Nat.reduceLT, Nat.reduceEqDiff, Nat.reduceAdd, Nat.reduceSub, Nat.reduceMul, wrap_nat hlt (show n ≤ 9223372036854775807 by omega)]
      exact ⟨hlt, Nxt.same (Nat.le_refl _) hb rfl ⟨by rw [hfo], rfl⟩⟩
    · rw [b1] at hfo
      unfold dints
      by_cases hc : at0 D j + 1 < a
      · rw [if_pos ⟨rfl, hc⟩] at hfo
        simp -dsimp -implicitDefEqProofs only [aw, slots0, V.copy, V.lend, V.lend1, V.cells, V.boxable, over, bldV, boundV, rowsOf, plains, V.plain, Nat.reduceLeDiff, cond_true, cond_false, implies_true, eq_self, ne_eq, reduceIte, reduceCtorEq, Nat.reduceBEq, Nat.reduceLT, Nat.reduceEqDiff, Nat.reduceAdd, Nat.reduceSub, Nat.reduceMul, iaK_some, hd, hw2, Int.ofNat_lt, hc, decide_true, wrap_nat hlt (show n ≤ 9223372036854775807 by omega)]
        exact ⟨hlt, Nxt.same (Nat.le_refl _) hb rfl ⟨by rw [hfo], rfl⟩⟩
      · rw [if_neg (fun h => hc h.2)] at hfo
        simp -dsimp -implicitDefEqProofs only [aw, slots0, V.copy, V.lend, V.lend1, V.cells, V.boxable, over, bldV, boundV, rowsOf, plains, V.plain, Nat.reduceLeDiff, cond_true, cond_false, implies_true, eq_self, ne_eq, reduceIte, reduceCtorEq, Nat.reduceBEq, Nat.reduceLT, Nat.reduceEqDiff, Nat.reduceAdd, Nat.reduceSub, Nat.reduceMul, iaK_some, hd, hw2, Int.ofNat_lt, hc, decide_false, wrap_nat hlt (show n ≤ 9223372036854775807 by omega)]
        exact ⟨hlt, Nxt.same (Nat.le_refl _) hb rfl ⟨by rw [hfo], rfl⟩⟩
  have e : n = j := by omega
  subst e
  rw [show (List.range n).foldl (minD l f D) (n + 1) = L from hlen]
  simp -dsimp -implicitDefEqProofs only [aw, slots0, V.copy, V.lend, V.lend1, V.cells, V.boxable, over, bldV, boundV, rowsOf, plains, V.plain, Nat.reduceLeDiff, cond_true, cond_false, implies_true, eq_self, ne_eq, reduceIte, reduceCtorEq, Nat.reduceBEq, Nat.reduceLT, Nat.reduceEqDiff, Nat.reduceAdd, Nat.reduceSub, Nat.reduceMul, Int.ofNat_lt, Nat.lt_irrefl, decide_false]
  have hL1 := hL.1
  have hbg := fun k => back_get (n := n) (l := l) (dv := dvr n D) (L - 1) f k
  generalize hC : cyc n l (dvr n D) f L = C at c1 c2
  have hbg' : ∀ k, k < L - 1 → ∃ x y, C[k]? = some x ∧ C[k + 1]? = some y ∧ y = least n fun i => l.contains (x, i) && dvr n D i == some (L - 1 - k) := fun k hk => by rw [← hC]; exact hbg k hk
  have hC0 : C[0]? = some f := by rw [← hC]; rfl
  have hC1 : C.take 1 = [f] := by rw [← hC]; rfl
  refine awp_forK [0, 1, 8, 9, 11, 12] (fun (k : Nat) ρ τ => ∃ x, C[k]? = some x ∧ ρ = [(0, .d (dint n)), (1, .d (dprs l)), (8, .d (dints (cst D))), (9, .d (dint (L : Nat))), (11, .own 3 1 ((cst (C.take (k + 1))).map fun x => [dint x])), (12, .d (dint (x : Nat)))] ∧ σ' = τ) (L - 1) ⟨f, hC0, by rw [hC1]; rfl, rfl⟩ ?_ _
  rintro k ρ' τ hk ⟨x, hx, rfl, rfl⟩
  have htk : (C.take (k + 1)).length = k + 1 := by rw [List.length_take, c1]; omega
  by_cases hkl : k < L - 1
  · obtain ⟨x', y, h1, h2, h3⟩ := hbg' k hkl
    rw [hx] at h1
    cases h1
    have hyn : y < n := c2 y (List.mem_of_getElem? h2)
    have hlt2 : ((k + 1 : Nat) : Int) < ((L : Nat) : Int) := by omega
    have hls := least_lt (n := n) (p := fun i => l.contains (x, i) && dvr n D i == some (L - 1 - k)) (by rw [← h3]; exact hyn)
    rw [← h3] at hls
    obtain ⟨hy1, hy2⟩ := hls
    have htk2 : C.take (k + 1 + 1) = C.take (k + 1) ++ [y] := by rw [List.take_add_one, h2]; rfl
    simp -dsimp -implicitDefEqProofs only [aw, slots0, V.copy, V.lend, V.lend1, V.cells, V.boxable, over, bldV, boundV, rowsOf, plains, V.plain, Nat.reduceLeDiff, cond_true, cond_false, implies_true, eq_self, ne_eq, reduceIte, reduceCtorEq, Nat.reduceBEq, Nat.reduceLT, Nat.reduceEqDiff, Nat.reduceAdd, Nat.reduceSub, Nat.reduceMul, List.length_map, htk, hlt2, decide_true]
    refine awp_forK [0, 1, 8, 9, 11, 12, 13] (fun (i : Nat) ρ τ => ρ = [(0, .d (dint n)), (1, .d (dprs l)), (8, .d (dints (cst D))), (9, .d (dint (L : Nat))), (11, .own 3 1 ((cst (C.take (k + 1))).map fun x => [dint x])), (12, .d (dint (x : Nat))), (13, vint .i64 i)] ∧ σ' = τ ∧ i ≤ y) n ⟨rfl, rfl, Nat.zero_le _⟩ ?_ _
    rintro i ρ' τ hi ⟨rfl, rfl, hiy⟩
    have hlt : i < n := by omega
    have hp : ∀ z, ((fun i => l.contains (x, i) && dvr n D i == some (L - 1 - k)) z = true) → pairB l x z = true ∧ at0 D z = L - 1 - k := fun z hz => by
      simp only [Bool.and_eq_true] at hz
      rw [pairB_eq, hz.1]
      refine ⟨rfl, ?_⟩
      have := hz.2
      rw [hdi z _ (by omega)] at this
      exact of_decide_eq_true this
    have hd := ints_at (cst_at (L := D) (i := i) (by omega))
    have hw2 : IntKind.i64.wrap ((L : Int) - ((k + 1 : Nat) : Int)) = ((L - 1 - k : Nat) : Int) := by rw [wrap_i64 (by omega) (by omega)]; omega
    simp -dsimp -implicitDefEqProofs only [aw, slots0, V.copy, V.lend, V.lend1, V.cells, V.boxable, over, bldV, boundV, rowsOf, plains, V.plain, Nat.reduceLeDiff, cond_true, cond_false, implies_true, eq_self, ne_eq, reduceIte, reduceCtorEq, Nat.reduceBEq, Nat.reduceLT, Nat.reduceEqDiff, Nat.reduceAdd, Nat.reduceSub, Nat.reduceMul, Int.ofNat_lt, hlt, decide_true]
    refine fun_ret (pair_fun l x i hll _) ?_
    unfold dints
    by_cases hiy2 : i = y
    · subst hiy2
      obtain ⟨q1, q2⟩ := hp i hy1
      rw [q1]
      rw [q2] at hd
      simp -dsimp -implicitDefEqProofs only [aw, slots0, V.copy, V.lend, V.lend1, V.cells, V.boxable, over, bldV, boundV, rowsOf, plains, V.plain, Nat.reduceLeDiff, cond_true, cond_false, implies_true, eq_self, ne_eq, reduceIte, reduceCtorEq, Nat.reduceBEq, Nat.reduceLT, Nat.reduceEqDiff, Nat.reduceAdd, Nat.reduceSub, Nat.reduceMul, iaK_some, hd, List.length_map, htk, hw2, decide_true]
      refine onT_intro (by omega) ?_
      simp -dsimp -implicitDefEqProofs only [aw, slots0, V.copy, V.lend, V.lend1, V.cells, V.boxable, over, bldV, boundV, rowsOf, plains, V.plain, Nat.reduceLeDiff, cond_true, cond_false, implies_true, eq_self, ne_eq, reduceIte, reduceCtorEq, Nat.reduceBEq, Nat.reduceLT, Nat.reduceEqDiff, Nat.reduceAdd, Nat.reduceSub, Nat.reduceMul]
      exact ⟨hkl, Nxt.same (Nat.le_refl _) hb rfl ⟨i, h2, by rw [htk2]; simp, rfl⟩⟩
    · have hne := hy2 i (by omega)
      cases b1 : pairB l x i
      · simp -dsimp -implicitDefEqProofs only [aw, slots0, V.copy, V.lend, V.lend1, V.cells, V.boxable, over, bldV, boundV, rowsOf, plains, V.plain, Nat.reduceLeDiff, cond_true, cond_false, implies_true, eq_self, ne_eq, reduceIte, reduceCtorEq, Nat.reduceBEq, Nat.reduceLT, Nat.reduceEqDiff, Nat.reduceAdd, Nat.reduceSub, Nat.reduceMul, wrap_nat hlt (show n ≤ 9223372036854775807 by omega)]
        exact ⟨hlt, Nxt.same (Nat.le_refl _) hb rfl ⟨rfl, rfl, by omega⟩⟩
      · have hD : ¬ ((at0 D i : Nat) : Int) = ((L - 1 - k : Nat) : Int) := fun h => by
          have h' : at0 D i = L - 1 - k := by omega
          rw [pairB_eq] at b1
          have h5 := hdi i (L - 1 - k) (by omega)
          simp only [b1, Bool.true_and, h5, h', decide_true] at hne
          cases hne
        simp -dsimp -implicitDefEqProofs only [aw, slots0, V.copy, V.lend, V.lend1, V.cells, V.boxable, over, bldV, boundV, rowsOf, plains, V.plain, Nat.reduceLeDiff, cond_true, cond_false, implies_true, eq_self, ne_eq, reduceIte, reduceCtorEq, Nat.reduceBEq, Nat.reduceLT, Nat.reduceEqDiff, Nat.reduceAdd, Nat.reduceSub, Nat.reduceMul, iaK_some, hd, List.length_map, htk, hw2, hD, decide_false, wrap_nat hlt (show n ≤ 9223372036854775807 by omega)]
        exact ⟨hlt, Nxt.same (Nat.le_refl _) hb rfl ⟨rfl, rfl, by omega⟩⟩
  · have hlt2 : ¬ ((k + 1 : Nat) : Int) < ((L : Nat) : Int) := by omega
    simp -dsimp -implicitDefEqProofs only [aw, slots0, V.copy, V.lend, V.lend1, V.cells, V.boxable, over, bldV, boundV, rowsOf, plains, V.plain, Nat.reduceLeDiff, cond_true, cond_false, implies_true, eq_self, ne_eq, reduceIte, reduceCtorEq, Nat.reduceBEq, Nat.reduceLT, Nat.reduceEqDiff, Nat.reduceAdd, Nat.reduceSub, Nat.reduceMul, List.length_map, htk, hlt2, decide_false]
    have e : C.take (k + 1) = C := List.take_of_length_le (by omega)
    rw [e]
    exact fin_ret hb rfl rfl List.take_length ⟨rfl, rfl⟩
end Go.Proofs.Ytinenohgemndiaa
