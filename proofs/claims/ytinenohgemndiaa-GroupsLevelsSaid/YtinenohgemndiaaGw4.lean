/-
  The program's cycle.
-/
import Derived.Test.YtinenohgemndiaaGw3
set_option linter.unusedVariables false
set_option linter.unusedSimpArgs false
set_option linter.unusedSectionVars false
namespace Go.Proofs.Ytinenohgemndiaa
open Go.RowKit
theorem dsP_len {l : Prs} {n f : Nat} (hl : ∀ a b, RL l a b → a < n ∧ b < n) (hf : f < n) : (dsP n f l).length = n := (bfs_spec hl hf n 1 _ (Nat.le_refl _) (by omega) (BI.start hf)).1
theorem dsP_iff {l : Prs} {n f : Nat} {dv : Nat → Option Nat} (hl : ∀ a b, RL l a b → a < n ∧ b < n) (hf : f < n) (hdv : DV l n f dv) {v : Nat} (hv : v < n) (m : Nat) : dv v = some m ↔ ati (dsP n f l) v = (m : Nat) := by
  rw [hdv.iff hv]
  have h := (bfs_spec hl hf n 1 _ (Nat.le_refl _) (by omega) (BI.start hf)).2 v hv
  show Dst (RL l) f v m ↔ ati (bfs l n 1 _) v = _
  rcases h with ⟨m', -, h1, h2⟩ | ⟨h1, h2⟩
  · have h2' : ati (bfs l n 1 ((List.replicate n (-1)).set f 0, [f])) v = (m' : Nat) := h2
    rw [h2']
    constructor
    · intro h; rw [h.unique h1]
    · intro h
      have : m' = m := by omega
      rw [← this]; exact h1
  · have h2' : ati (bfs l n 1 ((List.replicate n (-1)).set f 0, [f])) v = -1 := h2
    rw [h2']
    constructor
    · intro h; exact absurd h (h1 m)
    · intro h; omega
theorem dsP_rng {l : Prs} {n f : Nat} (hl : ∀ a b, RL l a b → a < n ∧ b < n) (hf : f < n) (v : Nat) (hv : v < n) : ati (dsP n f l) v = -1 ∨ ∃ m : Nat, m < n ∧ ati (dsP n f l) v = (m : Nat) := by
  have h := (bfs_spec hl hf n 1 _ (Nat.le_refl _) (by omega) (BI.start hf)).2 v hv
  rcases h with ⟨m', h0, -, h2⟩ | ⟨-, h2⟩
  · exact .inr ⟨m', h0, h2⟩
  · exact .inl h2
def lc (f : Nat) (D : List Int) (q : Nat × Nat) : Bool := decide (q.1 = f) && decide (0 ≤ ati D q.2)
def lst (f : Nat) (D : List Int) (a : Nat) (q : Nat × Nat) : Nat := if lc f D q = true then min a ((ati D q.2).toNat + 1) else a
def ncc (f : Nat) (D : List Int) (x t : Nat) (q : Nat × Nat) : Bool := decide (q.1 = x) && decide (q.2 ≠ f) && decide (ati D q.2 = (t : Nat))
def nst (f : Nat) (D : List Int) (x t : Nat) (a : Nat) (q : Nat × Nat) : Nat := if ncc f D x t q = true then min a q.2 else a
section
variable {l : Prs} {n f : Nat} {dv : Nat → Option Nat} {D : List Int} (hl : ∀ a b, RL l a b → a < n ∧ b < n) (hdv : DV l n f dv) (hD : ∀ v, v < n → ∀ m : Nat, dv v = some m ↔ ati D v = (m : Nat))
include hl hdv hD
theorem len_eq {L : Nat} (hL : CLen (RL l) f L) (hLn : L ≤ n) : l.foldl (lst f D) (n + 1) = L := by
  obtain ⟨h1, h2, h3⟩ := minfold (lc f D) (fun q => (ati D q.2).toNat + 1) l (n + 1)
  show l.foldl (fun a q => if lc f D q = true then min a ((ati D q.2).toNat + 1) else a) (n + 1) = L
  generalize l.foldl (fun a q => if lc f D q = true then min a ((ati D q.2).toNat + 1) else a) (n + 1) = x at h1 h2 h3
  obtain ⟨g1, ⟨w, g2, g3⟩, g4⟩ := hL
  have hw := (hl _ _ g2).2
  have e1 := (hD w hw _).1 ((hdv.iff hw _).2 g3)
  have h4 := h3 (f, w) g2 (by simp [lc, e1])
  simp only [e1, Int.toNat_natCast] at h4
  rcases h2 with h2 | ⟨⟨a, b⟩, hq, hc, h2⟩
  · omega
  · simp only [lc, Bool.and_eq_true, decide_eq_true_eq] at hc
    obtain ⟨rfl, hge⟩ := hc
    have hb := (hl _ _ hq).2
    obtain ⟨m, hm⟩ : ∃ m : Nat, ati D b = (m : Nat) := ⟨(ati D b).toNat, by omega⟩
    have := g4 b m hq ((hdv.iff hb m).1 ((hD b hb m).2 hm))
    simp only [hm, Int.toNat_natCast] at h2
    omega
theorem next_eq {x t y : Nat} (ht : 1 ≤ t) (hy : y = least n fun i => l.contains (x, i) && dv i == some t) (hyn : y < n) (hyp : (l.contains (x, y) && dv y == some t) = true) : l.foldl (nst f D x t) n = y := by
  have hp : ∀ i, (l.contains (x, i) && dv i == some t) = true → (x, i) ∈ l ∧ i < n ∧ ati D i = (t : Nat) ∧ i ≠ f := fun i hi => by
    rw [Bool.and_eq_true, List.contains_iff_mem] at hi
    have hin := (hl _ _ hi.1).2
    have hd : dv i = some t := by simpa using hi.2
    refine ⟨hi.1, hin, (hD i hin t).1 hd, fun e => ?_⟩
    subst e
    have h1 := (hdv.iff hin t).1 hd
    have h2 := h1.unique (.inl ⟨rfl, rfl⟩ : Dst (RL l) i i 0)
    omega
  obtain ⟨h1, h2, h3⟩ := minfold (ncc f D x t) (fun q => q.2) l n
  show l.foldl (fun a q => if ncc f D x t q = true then min a q.2 else a) n = y
  generalize l.foldl (fun a q => if ncc f D x t q = true then min a q.2 else a) n = z at h1 h2 h3
  have hle : ∀ i, (l.contains (x, i) && dv i == some t) = true → z ≤ i := fun i hi => by
    obtain ⟨q1, -, q3, q4⟩ := hp i hi
    exact h3 (x, i) q1 (by simp [ncc, q3, q4])
  rcases h2 with h2 | ⟨⟨a, b⟩, hq, hc, h2⟩
  · have := hle y hyp; omega
  · simp only [ncc, Bool.and_eq_true, decide_eq_true_eq] at hc
    obtain ⟨⟨rfl, hbf⟩, hbt⟩ := hc
    simp only at h2
    subst h2
    have hzn := (hl _ _ hq).2
    rw [hy]
    refine (least_unique hzn ?_ fun j hj hjp => hle j hjp).symm
    rw [Bool.and_eq_true, List.contains_iff_mem]
    exact ⟨hq, by simpa using (hD z hzn t).2 hbt⟩
end
theorem ati_at {D : List Int} {i : Nat} (h : i < D.length) : D[i]? = some (ati D i) := by
  unfold ati; rw [List.getElem?_eq_getElem h]; rfl
theorem v_mn (a b : Nat) : mxV false (.d (.lit (.int .i64 (a : Int)))) (.d (.lit (.int .i64 (b : Int)))) = some (vint .i64 ((min a b : Nat) : Int)) := by
  have h : (if (b : Int) < (a : Int) then (b : Int) else (a : Int)) = ((min a b : Nat) : Int) := by split <;> omega
  unfold mxV
  simp only [if_true, Bool.false_eq_true, if_false, h]
theorem cycle_no (n : Int) (l : Rw) (hl : l.length ≤ 1000000) (hv : validR n l = false) (σ : List (List V)) : Fun G 15 [.d (dint n), .d (drel l)] σ (RetV (.d (dints [])) σ) := by
  refine fun_code Try.func15 k15 rfl fun hb hw => ?_
  unfold c15
  simp -dsimp -implicitDefEqProofs only [aw, slots0, V.copy, V.lend, V.lend1, V.cells, V.boxable, over, bldV, boundV, rowsOf, plains, V.plain, Nat.reduceLeDiff, cond_true, cond_false, implies_true, eq_self, ne_eq, reduceIte, reduceCtorEq, Nat.reduceBEq, Nat.reduceLT, Nat.reduceEqDiff, Nat.reduceAdd, Nat.reduceSub, Nat.reduceMul]
  refine fun_ret (grvalid_fun n l hl _) ?_
  simp -dsimp -implicitDefEqProofs only [aw, slots0, V.copy, V.lend, V.lend1, V.cells, V.boxable, over, bldV, boundV, rowsOf, plains, V.plain, Nat.reduceLeDiff, cond_true, cond_false, implies_true, eq_self, ne_eq, reduceIte, reduceCtorEq, Nat.reduceBEq, Nat.reduceLT, Nat.reduceEqDiff, Nat.reduceAdd, Nat.reduceSub, Nat.reduceMul, hv]
  exact fin_ret hb rfl rfl List.take_length ⟨rfl, rfl⟩
set_option maxHeartbeats 8000000 in
theorem cycle_fun (n : Nat) (l : Prs) (hn : n ≤ 64) (hl : ∀ a b, RL l a b → a < n ∧ b < n) (hll : l.length ≤ 1000000) (hv : validR n (l.map fun q => ((q.1 : Int), (q.2 : Int))) = true) (σ : List (List V)) : Fun G 15 [.d (dint n), .d (dprs l)] σ (RetV (.d (dints (cst (cycR n l)))) σ) := by
  refine fun_code Try.func15 k15 rfl fun hb hw => ?_
  unfold c15
  simp -dsimp -implicitDefEqProofs only [aw, slots0, V.copy, V.lend, V.lend1, V.cells, V.boxable, over, bldV, boundV, rowsOf, plains, V.plain, Nat.reduceLeDiff, cond_true, cond_false, implies_true, eq_self, ne_eq, reduceIte, reduceCtorEq, Nat.reduceBEq, Nat.reduceLT, Nat.reduceEqDiff, Nat.reduceAdd, Nat.reduceSub, Nat.reduceMul]
  refine fun_ret (grvalid_fun n _ (by simpa using hll) _) ?_
  simp -dsimp -implicitDefEqProofs only [aw, slots0, V.copy, V.lend, V.lend1, V.cells, V.boxable, over, bldV, boundV, rowsOf, plains, V.plain, Nat.reduceLeDiff, cond_true, cond_false, implies_true, eq_self, ne_eq, reduceIte, reduceCtorEq, Nat.reduceBEq, Nat.reduceLT, Nat.reduceEqDiff, Nat.reduceAdd, Nat.reduceSub, Nat.reduceMul, hv]
  refine fun_ret (closure_fun n l hn hl hll _) ?_
  obtain ⟨ht, hcl⟩ := clo_get hl
  unfold cycR
  generalize clo n l = t at ht hcl
  have htl := ht.len
  have hdt : dtab t = .sl (t.map fun r => [D.sl (dbs r)]) := rfl
  rw [hdt]
  -- what follows once the first number is found
  have main : ∀ F : Int, F = fsti n t 0 → True := fun _ _ => trivial
  simp -dsimp -implicitDefEqProofs only [aw, slots0, V.copy, V.lend, V.lend1, V.cells, V.boxable, over, bldV, boundV, rowsOf, plains, V.plain, Nat.reduceLeDiff, cond_true, cond_false, implies_true, eq_self, ne_eq, reduceIte, reduceCtorEq, Nat.reduceBEq, Nat.reduceLT, Nat.reduceEqDiff, Nat.reduceAdd, Nat.reduceSub, Nat.reduceMul, List.length_map, htl]
  refine awp_forK [0, 1, 5, 6, 24, 25] (fun (j : Nat) ρ τ => ρ = [(0, .d (dint n)), (1, .d (dprs l)), (5, .d (.sl (t.map fun r => [D.sl (dbs r)]))), (6, vint .i64 (-1)), (24, vint .i64 n), (25, vint .i64 j)] ∧ τ = σ ∧ fsti n t 0 = fsti n t j) n ⟨rfl, rfl, rfl⟩ ?_ _
  rintro j ρ' τ hj ⟨rfl, rfl, hF⟩
  by_cases hlt : j < n
  · have hst := fsti_step (t := t) hlt
    have hlj : t[j]? = some (t[j]?.getD []) := by rw [List.getElem?_eq_getElem (by rw [ht.len]; exact hlt)]; rfl
    have g1 := dbs_at (ht.get hlt hlt)
    cases b1 : tget t j j
    · rw [b1] at g1 hst
      rw [if_neg (by simp)] at hst
      simp -dsimp -implicitDefEqProofs only [aw, slots0, V.copy, V.lend, V.lend1, V.cells, V.boxable, over, bldV, boundV, rowsOf, plains, V.plain, Nat.reduceLeDiff, cond_true, cond_false, implies_true, eq_self, ne_eq, reduceIte, reduceCtorEq, Nat.reduceBEq, Nat.reduceLT, Nat.reduceEqDiff, Nat.reduceAdd, Nat.reduceSub, Nat.reduceMul, Int.ofNat_lt, hlt, decide_true, tab_at hlj, iaK_some, g1, wrap_nat hlt (show n ≤ 9223372036854775807 by omega)]
      exact Nxt.same (Nat.le_refl _) hb rfl ⟨rfl, rfl, by rw [hF, hst]⟩
    · rw [b1] at g1 hst
      rw [if_pos rfl] at hst
      rw [hst] at hF
      rw [hF, if_neg (by omega)]
      have hnf : ¬ ((j : Nat) : Int) < 0 := by omega
      simp -dsimp -implicitDefEqProofs only [aw, slots0, V.copy, V.lend, V.lend1, V.cells, V.boxable, over, bldV, boundV, rowsOf, plains, V.plain, Nat.reduceLeDiff, cond_true, cond_false, implies_true, eq_self, ne_eq, reduceIte, reduceCtorEq, Nat.reduceBEq, Nat.reduceLT, Nat.reduceEqDiff, Nat.reduceAdd, Nat.reduceSub, Nat.reduceMul, Int.ofNat_lt, hlt, decide_true, tab_at hlj, iaK_some, g1, hnf, decide_false]
      refine fun_ret (dist_fun n j l hn hlt hl hll _) ?_
      have hff := b1
      simp only [Int.toNat_natCast]
      have hf := hlt
      clear hst hlj g1 b1 hF hj
      generalize j = f at *
      have hdv := dvr_dv (n := n) (f := f) hl hf
      obtain ⟨L, hL, hLn⟩ := clen_ex hl ((hcl f f hf hf).1 hff)
      rw [lenD_spec hl hdv hL hLn]
      obtain ⟨c1, c2, -⟩ := cyc_spec hl hdv hL
      generalize dvr n (dsts l n (dist0 n f)) = dv at hdv c1 c2
      have hD := fun v hv m => dsP_iff hl hf hdv (v := v) hv m
      have hDl := dsP_len hl hf
      have hDr := dsP_rng hl hf
      generalize dsP n f l = D at hD hDl hDr
      have hlen := len_eq hl hdv hD hL hLn
      have hw1 : IntKind.i64.wrap ((n : Int) + 1) = ((n + 1 : Nat) : Int) := by rw [wrap_i64 (by omega) (by omega)]; omega
      rw [dprs_eq]
      unfold dints
      simp -dsimp -implicitDefEqProofs only [aw, slots0, V.copy, V.lend, V.lend1, V.cells, V.boxable, over, bldV, boundV, rowsOf, plains, V.plain, Nat.reduceLeDiff, cond_true, cond_false, implies_true, eq_self, ne_eq, reduceIte, reduceCtorEq, Nat.reduceBEq, Nat.reduceLT, Nat.reduceEqDiff, Nat.reduceAdd, Nat.reduceSub, Nat.reduceMul, hw1]
      refine awp_forK [0, 1, 6, 8, 9, 10, 47, 48, 49] (fun (k : Nat) ρ υ => ρ = [(0, .d (dint n)), (1, .d (.sl (l.map fun p => [dint p.1, dint p.2]))), (6, .d (dint (f : Nat))), (8, .d (.sl (D.map fun x => [dint x]))), (9, .own 3 1 [[dint (f : Nat)]]), (10, .d (dint (((l.take k).foldl (lst f D) (n + 1) : Nat)))), (47, .d (.sl (l.map fun p => [dint p.1, dint p.2]))), (48, vint .i64 l.length), (49, vint .i64 k)] ∧ υ = τ ∧ (l.take k).foldl (lst f D) (n + 1) ≤ n + 1) l.length ⟨rfl, rfl, Nat.le_refl _⟩ ?_ _
      rintro k ρ' υ hk ⟨rfl, rfl, hbd⟩
      by_cases hkl : k < l.length
      · have hat : l[k]? = some l[k] := List.getElem?_eq_getElem hkl
        have hab := hl l[k].1 l[k].2 (List.getElem_mem hkl)
        have hfo := foldl_take (lst f D) (n + 1) hkl
        have hwk := wrap_nat hkl (show l.length ≤ 9223372036854775807 by omega)
        generalize (l.take k).foldl (lst f D) (n + 1) = a0 at hfo hbd
        generalize l[k] = p at hat hab hfo
        obtain ⟨a, b⟩ := p
        obtain ⟨ha, hb2⟩ := hab
        simp only at ha hb2
        have hDb := ints_at (ati_at (D := D) (i := b) (by omega))
        have hle2 : lst f D a0 (a, b) ≤ n + 1 := by
          unfold lst; split
          · exact Nat.le_trans (Nat.min_le_left _ _) hbd
          · exact hbd
        rw [← hfo] at hle2
        by_cases hc1 : a = f
        · subst hc1
          rcases hDr b hb2 with hneg | ⟨m, hm, hpos⟩
          · have he : lst a D a0 (a, b) = a0 := by unfold lst lc; rw [hneg]; simp
            rw [he] at hfo
            rw [hneg] at hDb
            have hng : ¬ (0 : Int) ≤ -1 := by decide
            simp -dsimp -implicitDefEqProofs only [aw, slots0, V.copy, V.lend, V.lend1, V.cells, V.boxable, over, bldV, boundV, rowsOf, plains, V.plain, Nat.reduceLeDiff, cond_true, cond_false, implies_true, eq_self, ne_eq, reduceIte, reduceCtorEq, Nat.reduceBEq, Nat.reduceLT, Nat.reduceEqDiff, Nat.reduceAdd, Nat.reduceSub, Nat.reduceMul, Int.ofNat_lt, hkl, decide_true, prs_at hat, iaK_some, aa0, aa1, ab0, ab1, abr0, abr1, hDb, ge_iff_le, hng, decide_false, hwk]
            exact Nxt.drop (Nat.le_refl _) hb rfl ⟨by rw [hfo], rfl, hle2⟩
          · have he : lst a D a0 (a, b) = min a0 (m + 1) := by unfold lst lc; rw [hpos]; simp
            rw [he] at hfo
            rw [hpos] at hDb
            have hge : (0 : Int) ≤ ((m : Nat) : Int) := by omega
            have hwm : IntKind.i64.wrap ((m : Int) + 1) = ((m + 1 : Nat) : Int) := by rw [wrap_i64 (by omega) (by omega)]; omega
            simp -dsimp -implicitDefEqProofs only [aw, slots0, V.copy, V.lend, V.lend1, V.cells, V.boxable, over, bldV, boundV, rowsOf, plains, V.plain, Nat.reduceLeDiff, cond_true, cond_false, implies_true, eq_self, ne_eq, reduceIte, reduceCtorEq, Nat.reduceBEq, Nat.reduceLT, Nat.reduceEqDiff, Nat.reduceAdd, Nat.reduceSub, Nat.reduceMul, Int.ofNat_lt, hkl, decide_true, prs_at hat, iaK_some, aa0, aa1, ab0, ab1, abr0, abr1, hDb, ge_iff_le, hge, hwm, v_mn, hwk]
            exact Nxt.drop (Nat.le_refl _) hb rfl ⟨by rw [hfo, show (((min a0 (m + 1) : Nat)) : Int) = min (a0 : Int) ((m + 1 : Nat) : Int) by omega], rfl, hle2⟩
        · have hc1' : ¬ ((a : Nat) : Int) = ((f : Nat) : Int) := by omega
          have he : lst f D a0 (a, b) = a0 := by unfold lst lc; simp [hc1]
          rw [he] at hfo
          simp -dsimp -implicitDefEqProofs only [aw, slots0, V.copy, V.lend, V.lend1, V.cells, V.boxable, over, bldV, boundV, rowsOf, plains, V.plain, Nat.reduceLeDiff, cond_true, cond_false, implies_true, eq_self, ne_eq, reduceIte, reduceCtorEq, Nat.reduceBEq, Nat.reduceLT, Nat.reduceEqDiff, Nat.reduceAdd, Nat.reduceSub, Nat.reduceMul, Int.ofNat_lt, hkl, decide_true, prs_at hat, iaK_some, aa0, aa1, ab0, ab1, abr0, abr1, hc1', decide_false, hwk]
          exact Nxt.drop (Nat.le_refl _) hb rfl ⟨by rw [hfo], rfl, hle2⟩
      rw [List.take_of_length_le (Nat.le_of_not_lt hkl), hlen]
      simp -dsimp -implicitDefEqProofs only [aw, slots0, V.copy, V.lend, V.lend1, V.cells, V.boxable, over, bldV, boundV, rowsOf, plains, V.plain, Nat.reduceLeDiff, cond_true, cond_false, implies_true, eq_self, ne_eq, reduceIte, reduceCtorEq, Nat.reduceBEq, Nat.reduceLT, Nat.reduceEqDiff, Nat.reduceAdd, Nat.reduceSub, Nat.reduceMul, Int.ofNat_lt, hkl, decide_false]
      clear hkl hbd hk
      have hL1 := hL.1
      have hbg := fun k => back_get (n := n) (l := l) (dv := dv) (L - 1) f k
      generalize hC : cyc n l dv f L = C at c1 c2
      have hbg' : ∀ k, k < L - 1 → ∃ x y, C[k]? = some x ∧ C[k + 1]? = some y ∧ y = least n fun i => l.contains (x, i) && dv i == some (L - 1 - k) := fun k hk => by rw [← hC]; exact hbg k hk
      have hC0 : C[0]? = some f := by rw [← hC]; rfl
      have hC1 : C.take 1 = [f] := by rw [← hC]; rfl
      refine awp_forK [0, 1, 6, 8, 9, 10] (fun (k : Nat) ρ ω => ρ = [(0, .d (dint n)), (1, .d (.sl (l.map fun p => [dint p.1, dint p.2]))), (6, .d (dint (f : Nat))), (8, .d (.sl (D.map fun x => [dint x]))), (9, .own 3 1 ((cst (C.take (k + 1))).map fun x => [dint x])), (10, .d (dint (L : Nat)))] ∧ ω = υ) (L - 1) ⟨by rw [hC1]; rfl, rfl⟩ ?_ _
      rintro k ρ' ω hk ⟨rfl, rfl⟩
      have htk : (C.take (k + 1)).length = k + 1 := by rw [List.length_take, c1]; omega
      by_cases hkl : k < L - 1
      · obtain ⟨x, y, h1, h2, h3⟩ := hbg' k hkl
        have hyn : y < n := c2 y (List.mem_of_getElem? h2)
        have hlt2 : ((k + 1 : Nat) : Int) < ((L : Nat) : Int) := by omega
        have hls := least_lt (n := n) (p := fun i => l.contains (x, i) && dv i == some (L - 1 - k)) (by rw [← h3]; exact hyn)
        rw [← h3] at hls
        have hnx := next_eq hl hdv hD (x := x) (t := L - 1 - k) (by omega) h3 hyn hls.1
        have htk2 : C.take (k + 1 + 1) = C.take (k + 1) ++ [y] := by rw [List.take_add_one, h2]; rfl
        have hxa : ((cst (C.take (k + 1))).map fun x => [dint x])[k]? = some [dint (x : Nat)] := by
          rw [List.getElem?_map, List.getElem?_map, List.getElem?_take_of_lt (by omega), h1]; rfl
        have hwk1 : IntKind.i64.wrap (((k + 1 : Nat) : Int) - 1) = ((k : Nat) : Int) := by rw [wrap_i64 (by omega) (by omega)]; omega
        have hwL : IntKind.i64.wrap ((L : Int) - ((k + 1 : Nat) : Int)) = ((L - 1 - k : Nat) : Int) := by rw [wrap_i64 (by omega) (by omega)]; omega
        have hrl : ((cst (C.take (k + 1))).map fun x => [dint x]).length = k + 1 := by simp [htk]; omega
        have hall : ((cst (C.take (k + 1))).map fun x => [dint x]).all (fun r => r.length == 1) = true := List.all_eq_true.2 fun r hr => by obtain ⟨_, -, rfl⟩ := List.mem_map.1 hr; rfl
        have hrows : ((cst (C.take (k + 1))).map fun x => [dint x]) ++ [[dint (y : Nat)]] = (cst (C.take (k + 1 + 1))).map fun x => [dint x] := by rw [htk2]; simp
        generalize ((cst (C.take (k + 1))).map fun x => [dint x]) = rows at hxa hrl hall hrows
        simp -dsimp -implicitDefEqProofs only [aw, slots0, V.copy, V.lend, V.lend1, V.cells, V.boxable, over, bldV, boundV, rowsOf, plains, V.plain, Nat.reduceLeDiff, cond_true, cond_false, implies_true, eq_self, ne_eq, reduceIte, reduceCtorEq, Nat.reduceBEq, Nat.reduceLT, Nat.reduceEqDiff, Nat.reduceAdd, Nat.reduceSub, Nat.reduceMul, hrl, hlt2, decide_true]
        refine awp_forK [0, 1, 6, 8, 9, 10, 13, 79, 80, 81] (fun (i : Nat) ρ υ => ρ = [(0, .d (dint n)), (1, .d (.sl (l.map fun p => [dint p.1, dint p.2]))), (6, .d (dint (f : Nat))), (8, .d (.sl (D.map fun x => [dint x]))), (9, .own 3 1 rows), (10, .d (dint (L : Nat))), (13, .d (dint (((l.take i).foldl (nst f D x (L - 1 - k)) n : Nat)))), (79, .d (.sl (l.map fun p => [dint p.1, dint p.2]))), (80, vint .i64 l.length), (81, vint .i64 i)] ∧ υ = ω) l.length ⟨rfl, rfl⟩ ?_ _
        rintro i ρ' υ hi ⟨rfl, rfl⟩
        by_cases hil : i < l.length
        · have hat : l[i]? = some l[i] := List.getElem?_eq_getElem hil
          have hab := hl l[i].1 l[i].2 (List.getElem_mem hil)
          have hfo := foldl_take (nst f D x (L - 1 - k)) n hil
          have hwi := wrap_nat hil (show l.length ≤ 9223372036854775807 by omega)
          generalize (l.take i).foldl (nst f D x (L - 1 - k)) n = a0 at hfo
          generalize l[i] = p at hat hab hfo
          obtain ⟨a, b⟩ := p
          obtain ⟨ha, hb2⟩ := hab
          simp only at ha hb2
          have hDb := ints_at (ati_at (D := D) (i := b) (by omega))
          by_cases hc1 : a = x
          · have hc1' : ((a : Nat) : Int) = ((x : Nat) : Int) := by omega
            by_cases hc2 : b = f
            · have he : nst f D x (L - 1 - k) a0 (a, b) = a0 := by unfold nst ncc; simp [hc2]
              rw [he] at hfo
              have hc2' : ((b : Nat) : Int) = ((f : Nat) : Int) := by omega
              simp -dsimp -implicitDefEqProofs only [aw, slots0, V.copy, V.lend, V.lend1, V.cells, V.boxable, over, bldV, boundV, rowsOf, plains, V.plain, Nat.reduceLeDiff, cond_true, cond_false, implies_true, eq_self, ne_eq, reduceIte, reduceCtorEq, Nat.reduceBEq, Nat.reduceLT, Nat.reduceEqDiff, Nat.reduceAdd, Nat.reduceSub, Nat.reduceMul, Int.ofNat_lt, hil, decide_true, prs_at hat, iaK_some, aa0, aa1, ab0, ab1, abr0, abr1, hrl, hwk1, hxa, hc1', hc2', decide_false, hwi]
              exact Nxt.drop (Nat.le_refl _) hb rfl ⟨by rw [hfo], rfl⟩
            · have hc2' : ¬ ((b : Nat) : Int) = ((f : Nat) : Int) := by omega
              by_cases hc3 : ati D b = ((L - 1 - k : Nat) : Int)
              · have he : nst f D x (L - 1 - k) a0 (a, b) = min a0 b := by unfold nst ncc; simp [hc1, hc2, hc3]
                rw [he] at hfo
                simp -dsimp -implicitDefEqProofs only [aw, slots0, V.copy, V.lend, V.lend1, V.cells, V.boxable, over, bldV, boundV, rowsOf, plains, V.plain, Nat.reduceLeDiff, cond_true, cond_false, implies_true, eq_self, ne_eq, reduceIte, reduceCtorEq, Nat.reduceBEq, Nat.reduceLT, Nat.reduceEqDiff, Nat.reduceAdd, Nat.reduceSub, Nat.reduceMul, Int.ofNat_lt, hil, decide_true, prs_at hat, iaK_some, aa0, aa1, ab0, ab1, abr0, abr1, hrl, hwk1, hxa, hc1', hc2', hDb, hwL, hc3, v_mn, decide_false, hwi]
                exact Nxt.drop (Nat.le_refl _) hb rfl ⟨by rw [hfo, show (((min a0 b : Nat)) : Int) = min (a0 : Int) (b : Int) by omega], rfl⟩
              · have he : nst f D x (L - 1 - k) a0 (a, b) = a0 := by unfold nst ncc; simp [hc3]
                rw [he] at hfo
                simp -dsimp -implicitDefEqProofs only [aw, slots0, V.copy, V.lend, V.lend1, V.cells, V.boxable, over, bldV, boundV, rowsOf, plains, V.plain, Nat.reduceLeDiff, cond_true, cond_false, implies_true, eq_self, ne_eq, reduceIte, reduceCtorEq, Nat.reduceBEq, Nat.reduceLT, Nat.reduceEqDiff, Nat.reduceAdd, Nat.reduceSub, Nat.reduceMul, Int.ofNat_lt, hil, decide_true, prs_at hat, iaK_some, aa0, aa1, ab0, ab1, abr0, abr1, hrl, hwk1, hxa, hc1', hc2', hDb, hwL, hc3, decide_false, hwi]
                exact Nxt.drop (Nat.le_refl _) hb rfl ⟨by rw [hfo], rfl⟩
          · have hc1' : ¬ ((a : Nat) : Int) = ((x : Nat) : Int) := by omega
            have he : nst f D x (L - 1 - k) a0 (a, b) = a0 := by unfold nst ncc; simp [hc1]
            rw [he] at hfo
            simp -dsimp -implicitDefEqProofs only [aw, slots0, V.copy, V.lend, V.lend1, V.cells, V.boxable, over, bldV, boundV, rowsOf, plains, V.plain, Nat.reduceLeDiff, cond_true, cond_false, implies_true, eq_self, ne_eq, reduceIte, reduceCtorEq, Nat.reduceBEq, Nat.reduceLT, Nat.reduceEqDiff, Nat.reduceAdd, Nat.reduceSub, Nat.reduceMul, Int.ofNat_lt, hil, decide_true, prs_at hat, iaK_some, aa0, aa1, ab0, ab1, abr0, abr1, hrl, hwk1, hxa, hc1', decide_false, hwi]
            exact Nxt.drop (Nat.le_refl _) hb rfl ⟨by rw [hfo], rfl⟩
        · rw [List.take_of_length_le (Nat.le_of_not_lt hil), hnx]
          simp -dsimp -implicitDefEqProofs only [aw, slots0, V.copy, V.lend, V.lend1, V.cells, V.boxable, over, bldV, boundV, rowsOf, plains, V.plain, Nat.reduceLeDiff, cond_true, cond_false, implies_true, eq_self, ne_eq, reduceIte, reduceCtorEq, Nat.reduceBEq, Nat.reduceLT, Nat.reduceEqDiff, Nat.reduceAdd, Nat.reduceSub, Nat.reduceMul, Int.ofNat_lt, hil, decide_false]
          refine onT_intro (by omega) ?_
          simp -dsimp -implicitDefEqProofs only [aw, slots0, V.copy, V.lend, V.lend1, V.cells, V.boxable, over, bldV, boundV, rowsOf, plains, V.plain, Nat.reduceLeDiff, cond_true, cond_false, implies_true, eq_self, ne_eq, reduceIte, reduceCtorEq, Nat.reduceBEq, Nat.reduceLT, Nat.reduceEqDiff, Nat.reduceAdd, Nat.reduceSub, Nat.reduceMul]
          exact ⟨hkl, Nxt.same (Nat.le_refl _) hb rfl ⟨by rw [hrows], rfl⟩⟩
      · have hlt2 : ¬ ((k + 1 : Nat) : Int) < ((L : Nat) : Int) := by omega
        simp -dsimp -implicitDefEqProofs only [aw, slots0, V.copy, V.lend, V.lend1, V.cells, V.boxable, over, bldV, boundV, rowsOf, plains, V.plain, Nat.reduceLeDiff, cond_true, cond_false, implies_true, eq_self, ne_eq, reduceIte, reduceCtorEq, Nat.reduceBEq, Nat.reduceLT, Nat.reduceEqDiff, Nat.reduceAdd, Nat.reduceSub, Nat.reduceMul, List.length_map, htk, hlt2, decide_false]
        have e : C.take (k + 1) = C := List.take_of_length_le (by omega)
        rw [e]
        exact fin_ret hb rfl rfl List.take_length ⟨rfl, rfl⟩
  · rw [show j = n by omega, fsti_end] at hF
    rw [hF, if_pos (by decide)]
    simp -dsimp -implicitDefEqProofs only [aw, slots0, V.copy, V.lend, V.lend1, V.cells, V.boxable, over, bldV, boundV, rowsOf, plains, V.plain, Nat.reduceLeDiff, cond_true, cond_false, implies_true, eq_self, ne_eq, reduceIte, reduceCtorEq, Nat.reduceBEq, Nat.reduceLT, Nat.reduceEqDiff, Nat.reduceAdd, Nat.reduceSub, Nat.reduceMul, Int.ofNat_lt, hlt, decide_false, Int.reduceLT, decide_true]
    exact fin_ret hb rfl rfl List.take_length ⟨rfl, rfl⟩
end Go.Proofs.Ytinenohgemndiaa
