/-
  GroupsCycles.
-/
import Derived.Test.YtinenohgemndiaaGx2
set_option linter.unusedVariables false
set_option linter.unusedSimpArgs false
set_option linter.unusedSectionVars false
namespace Go.Proofs.Ytinenohgemndiaa
open Go.RowKit
theorem fsti_neg {n : Nat} {t : List (List Bool)} : ∀ {k lo : Nat}, n - lo = k → lo ≤ n → fsti n t lo < 0 → ∀ j, lo ≤ j → j < n → tget t j j = false
  | 0, lo, h, hl, _, j, h1, h2 => by omega
  | k + 1, lo, h, hl, hn, j, h1, h2 => by
    rw [fsti_step (show lo < n by omega)] at hn
    cases e : tget t lo lo
    · rw [e, if_neg (by simp)] at hn
      by_cases ej : j = lo
      · rw [ej]; exact e
      · exact fsti_neg (k := k) (lo := lo + 1) (by omega) (by omega) hn j (by omega) h2
    · rw [e, if_pos rfl] at hn; omega
theorem cyc_both {l : Prs} {n : Nat} (hl : ∀ a b, RL l a b → a < n ∧ b < n) : (Acyc (RL l) ∧ cycR n l = []) ∨ (¬ Acyc (RL l) ∧ 0 < (cycR n l).length ∧ (cycR n l).length ≤ n ∧ ∀ i, i < (cycR n l).length → (at0 (cycR n l) i, at0 (cycR n l) ((i + 1) % (cycR n l).length)) ∈ l) := by
  obtain ⟨ht, hcl⟩ := clo_get hl
  rcases fsti_lt (n := n) (t := clo n l) (k := n) (lo := 0) (by omega) (by omega) with hF | ⟨f, hF, -, hf, hff, -⟩
  · refine .inl ⟨?_, by unfold cycR; rw [if_pos hF]⟩
    apply Classical.byContradiction
    intro hac
    obtain ⟨i, hi, h⟩ := (diag_iff hl).2 hac
    have := fsti_neg (k := n) (by omega) (by omega) hF i (Nat.zero_le _) hi
    rw [h] at this; cases this
  · obtain ⟨L, hL, hLn⟩ := clen_ex hl ((hcl f f hf hf).1 hff)
    have hdv := dvr_dv (n := n) (f := f) hl hf
    have hc : cycR n l = cyc n l (dvr n (dsts l n (dist0 n f))) f L := by
      unfold cycR
      rw [hF, if_neg (by omega)]
      simp only [Int.toNat_natCast]
      rw [lenD_spec hl hdv hL hLn]
    obtain ⟨c1, c2, c3⟩ := cyc_spec hl hdv hL
    have h0 : (cyc n l (dvr n (dsts l n (dist0 n f))) f L)[0]? = some f := rfl
    rw [hc]
    generalize cyc n l (dvr n (dsts l n (dist0 n f))) f L = C at c1 c2 c3 h0
    have hL1 := hL.1
    refine .inr ⟨fun hac => ?_, by omega, by omega, fun i hi => ?_⟩
    · obtain ⟨m, hm⟩ := (hcl f f hf hf).1 hff
      exact hac m f hm
    · have := lnk_get c3 i hi
      have e1 : at0 C i = C[i] := by unfold at0; rw [List.getElem?_eq_getElem hi]; rfl
      rw [e1]
      by_cases h : i + 1 < C.length
      · rw [dif_pos h] at this
        have e2 : at0 C (i + 1) = C[i + 1] := by unfold at0; rw [List.getElem?_eq_getElem h]; rfl
        rw [Nat.mod_eq_of_lt h, e2]; exact this
      · rw [dif_neg h] at this
        have e2 : at0 C 0 = f := by unfold at0; rw [h0]; rfl
        rw [show i + 1 = C.length by omega, Nat.mod_self, e2]; exact this
theorem eqs_pair : G.eqs 31 = true := by kernel_rfl
theorem eql_pair (a b x y : Int) : eqLits [Kd.i IntKind.i64, Kd.i IntKind.i64] [V.d (dint a), V.d (dint b)] [V.d (dint x), V.d (dint y)] = some (decide (a = x) && decide (b = y)) := by
  simp [eqLits, eqLit]
theorem cycles_end (C : List Nat) (e : Int) (d0 : D) (n : Int) (l : Rw) (hll : l.length ≤ 60) (h1 : C.length ≤ 64) (hC : ∀ i, i < C.length → (((at0 C i : Nat) : Int), ((at0 C ((i + 1) % C.length) : Nat) : Int)) ∈ l) (he : decide (((C.length : Nat) : Int) > 0) = decide (e = 10)) (hf : fewB n l = true)
    (ha : ∀ σ, Fun G 15 [.d (dint n), .d (drel l)] σ (RetV (.d (dints (cst C))) σ)) (hb' : ∀ σ, Fun G 16 [.d (dint n), .d (drel l)] σ (RetV (.d (dints (cst C))) σ))
    (hc : ∀ σ, Fun G 11 [.d (dint n), .d (drel l)] σ (RetV (.tup [.d d0, .d (dint e)]) σ)) (σ : List (List V)) : Fun G 5 [.d (dint n), .d (drel l)] σ (RetV (vbool true) σ) := by
  refine fun_code Try.func5 k5 rfl fun hb hw => ?_
  unfold c5
  simp -dsimp -implicitDefEqProofs only [aw, slots0, V.copy, V.lend, V.lend1, V.cells, V.boxable, over, bldV, boundV, rowsOf, plains, V.plain, Nat.reduceLeDiff, cond_true, cond_false, implies_true, eq_self, ne_eq, reduceIte, reduceCtorEq, Nat.reduceBEq, Nat.reduceLT, Nat.reduceEqDiff, Nat.reduceAdd, Nat.reduceSub, Nat.reduceMul]
  refine fun_ret (few_fun n l _) ?_
  rw [hf]
  simp -dsimp -implicitDefEqProofs only [aw, slots0, V.copy, V.lend, V.lend1, V.cells, V.boxable, over, bldV, boundV, rowsOf, plains, V.plain, Nat.reduceLeDiff, cond_true, cond_false, implies_true, eq_self, ne_eq, reduceIte, reduceCtorEq, Nat.reduceBEq, Nat.reduceLT, Nat.reduceEqDiff, Nat.reduceAdd, Nat.reduceSub, Nat.reduceMul]
  refine fun_ret (ha _) ?_
  simp -dsimp -implicitDefEqProofs only [aw, slots0, V.copy, V.lend, V.lend1, V.cells, V.boxable, over, bldV, boundV, rowsOf, plains, V.plain, Nat.reduceLeDiff, cond_true, cond_false, implies_true, eq_self, ne_eq, reduceIte, reduceCtorEq, Nat.reduceBEq, Nat.reduceLT, Nat.reduceEqDiff, Nat.reduceAdd, Nat.reduceSub, Nat.reduceMul]
  refine fun_ret (hb' _) ?_
  simp -dsimp -implicitDefEqProofs only [aw, slots0, V.copy, V.lend, V.lend1, V.cells, V.boxable, over, bldV, boundV, rowsOf, plains, V.plain, Nat.reduceLeDiff, cond_true, cond_false, implies_true, eq_self, ne_eq, reduceIte, reduceCtorEq, Nat.reduceBEq, Nat.reduceLT, Nat.reduceEqDiff, Nat.reduceAdd, Nat.reduceSub, Nat.reduceMul]
  refine fun_ret (ints_fun _ _ (by simp; omega) (by simp; omega) _) ?_
  have hdl : drel l = .sl (l.map fun p => [dint p.1, dint p.2]) := rfl
  have hdc : dints (cst C) = .sl ((cst C).map fun x => [dint x]) := rfl
  rw [hdl] at hc ⊢
  rw [hdc]
  simp -dsimp -implicitDefEqProofs only [aw, slots0, V.copy, V.lend, V.lend1, V.cells, V.boxable, over, bldV, boundV, rowsOf, plains, V.plain, Nat.reduceLeDiff, cond_true, cond_false, implies_true, eq_self, ne_eq, reduceIte, reduceCtorEq, Nat.reduceBEq, Nat.reduceLT, Nat.reduceEqDiff, Nat.reduceAdd, Nat.reduceSub, Nat.reduceMul, decide_true]
  refine awp_forK [0, 1, 5, 6] (fun (j : Nat) ρ τ => ρ = [(0, .d (dint n)), (1, .d (.sl (l.map fun p => [dint p.1, dint p.2]))), (5, .d (.sl ((cst C).map fun x => [dint x]))), (6, vint .i64 j)] ∧ τ = σ) C.length ⟨rfl, rfl⟩ ?_ _
  rintro j ρ' τ hj ⟨rfl, rfl⟩
  by_cases hlt : j < C.length
  · have hat := ints_at (cst_at hlt)
    have hmem := hC j hlt
    have hmd : (j + 1) % C.length < C.length := Nat.mod_lt _ (by omega)
    have hat2 := ints_at (cst_at hmd)
    have hwj : IntKind.i64.wrap ((j : Int) + 1) = ((j + 1 : Nat) : Int) := by rw [wrap_i64 (by omega) (by omega)]; omega
    have hrem : Int.tmod ((j + 1 : Nat) : Int) ((C.length : Nat) : Int) = (((j + 1) % C.length : Nat) : Int) := by
      rw [Int.tmod_eq_emod_of_nonneg (by omega)]; omega
    have hz : ¬ ((C.length : Nat) : Int) = 0 := by omega
    generalize at0 C j = x at hat hmem
    generalize at0 C ((j + 1) % C.length) = y at hat2 hmem
    simp -dsimp -implicitDefEqProofs only [aw, slots0, V.copy, V.lend, V.lend1, V.cells, V.boxable, over, bldV, boundV, rowsOf, plains, V.plain, Nat.reduceLeDiff, cond_true, cond_false, implies_true, eq_self, ne_eq, reduceIte, reduceCtorEq, Nat.reduceBEq, Nat.reduceLT, Nat.reduceEqDiff, Nat.reduceAdd, Nat.reduceSub, Nat.reduceMul, Int.ofNat_lt, List.length_map, hlt, decide_true]
    refine awp_forK [0, 1, 5, 6, 7, 8] (fun (k : Nat) ρ υ => ρ = [(0, .d (dint n)), (1, .d (.sl (l.map fun p => [dint p.1, dint p.2]))), (5, .d (.sl ((cst C).map fun x => [dint x]))), (6, vint .i64 j), (7, vbool ((l.take k).any fun p => decide (p.1 = ((x : Nat) : Int)) && decide (p.2 = ((y : Nat) : Int)))), (8, vint .i64 k)] ∧ υ = τ) l.length ⟨rfl, rfl⟩ ?_ _
    rintro k ρ' υ hk ⟨rfl, rfl⟩
    by_cases hkl : k < l.length
    · have hrw := rows_at hkl
      have hany : (l.take (k + 1)).any (fun p => decide (p.1 = ((x : Nat) : Int)) && decide (p.2 = ((y : Nat) : Int))) = ((l.take k).any (fun p => decide (p.1 = ((x : Nat) : Int)) && decide (p.2 = ((y : Nat) : Int))) || (decide (l[k].1 = ((x : Nat) : Int)) && decide (l[k].2 = ((y : Nat) : Int)))) := by
        rw [List.take_add_one, List.getElem?_eq_getElem hkl, List.any_append]; simp
      have hwk := wrap_nat hkl (show l.length ≤ 9223372036854775807 by omega)
      generalize l[k] = p at hrw hany
      obtain ⟨a, b⟩ := p
      simp only at hrw hany
      cases hfd : (l.take k).any fun p => decide (p.1 = ((x : Nat) : Int)) && decide (p.2 = ((y : Nat) : Int))
      · rw [hfd] at hany
        by_cases hc1 : a = (x : Int)
        · by_cases hc2 : b = (y : Int)
          · simp -dsimp -implicitDefEqProofs only [aw, slots0, V.copy, V.lend, V.lend1, V.cells, V.boxable, over, bldV, boundV, rowsOf, plains, V.plain, Nat.reduceLeDiff, cond_true, cond_false, implies_true, eq_self, ne_eq, reduceIte, reduceCtorEq, Nat.reduceBEq, Nat.reduceLT, Nat.reduceEqDiff, Nat.reduceAdd, Nat.reduceSub, Nat.reduceMul, Int.ofNat_lt, hkl, List.length_map, decide_true, hrw, iaK_some, hat, hat2, hwj, hrem, hz, hc1, hc2, eqs_pair, eql_pair, cond_false, hwk]
            exact Nxt.same (Nat.le_refl _) hb rfl ⟨by rw [hany, hc1, hc2]; simp, rfl⟩
          · simp -dsimp -implicitDefEqProofs only [aw, slots0, V.copy, V.lend, V.lend1, V.cells, V.boxable, over, bldV, boundV, rowsOf, plains, V.plain, Nat.reduceLeDiff, cond_true, cond_false, implies_true, eq_self, ne_eq, reduceIte, reduceCtorEq, Nat.reduceBEq, Nat.reduceLT, Nat.reduceEqDiff, Nat.reduceAdd, Nat.reduceSub, Nat.reduceMul, Int.ofNat_lt, hkl, List.length_map, decide_true, hrw, iaK_some, hat, hat2, hwj, hrem, hz, hc1, hc2, decide_false, eqs_pair, eql_pair, cond_false, hwk]
            exact Nxt.same (Nat.le_refl _) hb rfl ⟨by rw [hany]; simp [hc2], rfl⟩
        · simp -dsimp -implicitDefEqProofs only [aw, slots0, V.copy, V.lend, V.lend1, V.cells, V.boxable, over, bldV, boundV, rowsOf, plains, V.plain, Nat.reduceLeDiff, cond_true, cond_false, implies_true, eq_self, ne_eq, reduceIte, reduceCtorEq, Nat.reduceBEq, Nat.reduceLT, Nat.reduceEqDiff, Nat.reduceAdd, Nat.reduceSub, Nat.reduceMul, Int.ofNat_lt, hkl, List.length_map, decide_true, hrw, iaK_some, hat, hat2, hwj, hrem, hz, hc1, decide_false, eqs_pair, eql_pair, cond_false, hwk]
          exact Nxt.same (Nat.le_refl _) hb rfl ⟨by rw [hany]; simp [hc1], rfl⟩
      · rw [hfd] at hany
        simp -dsimp -implicitDefEqProofs only [aw, slots0, V.copy, V.lend, V.lend1, V.cells, V.boxable, over, bldV, boundV, rowsOf, plains, V.plain, Nat.reduceLeDiff, cond_true, cond_false, implies_true, eq_self, ne_eq, reduceIte, reduceCtorEq, Nat.reduceBEq, Nat.reduceLT, Nat.reduceEqDiff, Nat.reduceAdd, Nat.reduceSub, Nat.reduceMul, Int.ofNat_lt, hkl, List.length_map, decide_true, hwk]
        exact Nxt.same (Nat.le_refl _) hb rfl ⟨by rw [hany, Bool.true_or], rfl⟩
    · rw [List.take_of_length_le (Nat.le_of_not_lt hkl)]
      have hfd : (l.any fun p => decide (p.1 = ((x : Nat) : Int)) && decide (p.2 = ((y : Nat) : Int))) = true := List.any_eq_true.2 ⟨_, hmem, by simp⟩
      rw [hfd]
      simp -dsimp -implicitDefEqProofs only [aw, slots0, V.copy, V.lend, V.lend1, V.cells, V.boxable, over, bldV, boundV, rowsOf, plains, V.plain, Nat.reduceLeDiff, cond_true, cond_false, implies_true, eq_self, ne_eq, reduceIte, reduceCtorEq, Nat.reduceBEq, Nat.reduceLT, Nat.reduceEqDiff, Nat.reduceAdd, Nat.reduceSub, Nat.reduceMul, Int.ofNat_lt, hkl, List.length_map, decide_false, wrap_nat hlt (show C.length ≤ 9223372036854775807 by omega)]
      exact ⟨hlt, Nxt.same (Nat.le_refl _) hb rfl ⟨rfl, rfl⟩⟩
  · simp -dsimp -implicitDefEqProofs only [aw, slots0, V.copy, V.lend, V.lend1, V.cells, V.boxable, over, bldV, boundV, rowsOf, plains, V.plain, Nat.reduceLeDiff, cond_true, cond_false, implies_true, eq_self, ne_eq, reduceIte, reduceCtorEq, Nat.reduceBEq, Nat.reduceLT, Nat.reduceEqDiff, Nat.reduceAdd, Nat.reduceSub, Nat.reduceMul, Int.ofNat_lt, List.length_map, hlt, decide_false]
    refine fun_ret (hc _) ?_
    simp -dsimp -implicitDefEqProofs only [aw, slots0, V.copy, V.lend, V.lend1, V.cells, V.boxable, over, bldV, boundV, rowsOf, plains, V.plain, Nat.reduceLeDiff, cond_true, cond_false, implies_true, eq_self, ne_eq, reduceIte, reduceCtorEq, Nat.reduceBEq, Nat.reduceLT, Nat.reduceEqDiff, Nat.reduceAdd, Nat.reduceSub, Nat.reduceMul, List.length_map, he, beq_self_eq_true]
    refine fun_ret (awake_fun _) ?_
    simp -dsimp -implicitDefEqProofs only [aw, slots0, V.copy, V.lend, V.lend1, V.cells, V.boxable, over, bldV, boundV, rowsOf, plains, V.plain, Nat.reduceLeDiff, cond_true, cond_false, implies_true, eq_self, ne_eq, reduceIte, reduceCtorEq, Nat.reduceBEq, Nat.reduceLT, Nat.reduceEqDiff, Nat.reduceAdd, Nat.reduceSub, Nat.reduceMul]
    first | exact fin_ret hb rfl rfl List.take_length ⟨rfl, rfl⟩ | exact fin_ret hb rfl rfl List.take_left ⟨rfl, rfl⟩ | (trace_state; fail "fin")
theorem cycles_law (n : Int) (l : Rw) (σ : List (List V)) : Fun G 5 [.d (dint n), .d (drel l)] σ (RetV (vbool true) σ) := by
  cases hf : fewB n l
  · refine fun_code Try.func5 k5 rfl fun hb hw => ?_
    unfold c5
    simp -dsimp -implicitDefEqProofs only [aw, slots0, V.copy, V.lend, V.lend1, V.cells, V.boxable, over, bldV, boundV, rowsOf, plains, V.plain, Nat.reduceLeDiff, cond_true, cond_false, implies_true, eq_self, ne_eq, reduceIte, reduceCtorEq, Nat.reduceBEq, Nat.reduceLT, Nat.reduceEqDiff, Nat.reduceAdd, Nat.reduceSub, Nat.reduceMul]
    refine fun_ret (few_fun n l _) ?_
    rw [hf]
    simp -dsimp -implicitDefEqProofs only [aw, slots0, V.copy, V.lend, V.lend1, V.cells, V.boxable, over, bldV, boundV, rowsOf, plains, V.plain, Nat.reduceLeDiff, cond_true, cond_false, implies_true, eq_self, ne_eq, reduceIte, reduceCtorEq, Nat.reduceBEq, Nat.reduceLT, Nat.reduceEqDiff, Nat.reduceAdd, Nat.reduceSub, Nat.reduceMul]
    refine fun_ret (awake_fun _) ?_
    simp -dsimp -implicitDefEqProofs only [aw, slots0, V.copy, V.lend, V.lend1, V.cells, V.boxable, over, bldV, boundV, rowsOf, plains, V.plain, Nat.reduceLeDiff, cond_true, cond_false, implies_true, eq_self, ne_eq, reduceIte, reduceCtorEq, Nat.reduceBEq, Nat.reduceLT, Nat.reduceEqDiff, Nat.reduceAdd, Nat.reduceSub, Nat.reduceMul]
    first | exact fin_ret hb rfl rfl List.take_length ⟨rfl, rfl⟩ | exact fin_ret hb rfl rfl List.take_left ⟨rfl, rfl⟩ | (trace_state; fail "fin")
  have hlen := few_len hf
  cases hv : validR n l
  · exact cycles_end [] 1 _ n l hlen (by simp) (fun i hi => by simp at hi) (by decide) hf (fun σ => cycle_no n l (by omega) hv σ) (fun σ => refcycle_no n l (by omega) hv σ) (fun σ => lev_no n l (by omega) hv σ) σ
  obtain ⟨m, p, rfl, hm, hdr, hpl, rfl, hp⟩ := valid_prs hv
  have ha := fun σ => cycle_fun m p hm hp (by omega) hv σ
  have hb' := fun σ => refcycle_fun m p hm hp (by omega) hv σ
  have hc := fun σ => lev_fun m p hm hp (by omega) hv σ
  rw [← hdr] at ha hb' hc
  have hmem : ∀ x y : Nat, (x, y) ∈ p → (((x : Nat) : Int), ((y : Nat) : Int)) ∈ p.map fun q => ((q.1 : Int), (q.2 : Int)) := fun x y h => List.mem_map.2 ⟨_, h, rfl⟩
  rcases lev_both hp with ⟨-, hac, e1, -⟩ | ⟨ls, -, hac, e1, -⟩
  · rw [e1] at hc
    rcases cyc_both hp with ⟨h, -⟩ | ⟨-, h0, h1, h2⟩
    · exact absurd h hac
    · exact cycles_end _ 10 _ _ _ hlen (by omega) (fun i hi => hmem _ _ (h2 i hi)) (by rw [decide_eq_true (by omega), decide_eq_true rfl]) hf ha hb' hc σ
  · rw [e1] at hc
    rcases cyc_both hp with ⟨-, h⟩ | ⟨h, -⟩
    · rw [h] at ha hb'
      exact cycles_end [] 0 _ _ _ hlen (by simp) (fun i hi => by simp at hi) (by decide) hf ha hb' hc σ
    · exact absurd hac h
end Go.Proofs.Ytinenohgemndiaa
