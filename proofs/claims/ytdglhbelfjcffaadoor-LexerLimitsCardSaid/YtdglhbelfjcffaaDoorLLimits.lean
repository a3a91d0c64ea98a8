/-
  The law LexerLimits: its walk.
-/
import Derived.Test.YtdglhbelfjcffaaDoorAw7
set_option linter.unusedVariables false
set_option linter.unusedSimpArgs false
namespace Go.Proofs.YtdglhbelfjcffaaDoor
open Go.RowKit

theorem bytesB_rep (k : Nat) : bytesB (List.replicate k (V.d (.lit (.int .u8 32))) ++ [V.d (.lit (.int .u8 64))]) = some (List.replicate k 32 ++ [64]) := by
  induction k with
  | zero => rfl
  | succ k ih => rw [List.replicate_succ, List.cons_append]; simp only [bytesB, ih, Option.map_some]; rfl
theorem fill_set (a b : V) (j n : Nat) : (List.replicate j a ++ List.replicate (n + 1) b).take j ++ a :: (List.replicate j a ++ List.replicate (n + 1) b).drop (j + 1) = List.replicate (j + 1) a ++ List.replicate n b := by
  rw [List.take_left' (by simp), List.drop_append, List.drop_eq_nil_of_le (by simp), List.length_replicate, show j + 1 - j = 1 by omega, List.drop_replicate, show j + 1 = j + 1 from rfl, List.replicate_succ' (n := j)]
  simp
theorem unders_lits {k : Nat} {cs : List V} (h : ∀ x, x ∈ cs → ∃ d, x = V.d d) : V.unders k cs = true := V.unders_of fun i hi => by
  obtain ⟨d, e⟩ := h _ (List.getElem_mem hi)
  rw [e]; rfl
set_option maxHeartbeats 1000000 in
theorem lexerLimits_fun (c : Int) (hc0 : 0 ≤ c) (hc1 : c < 256) : Fun G 8 [.d (.lit (.int .u8 c))] [] (RetV (.d (.lit (.bool true))) []) := by
  obtain ⟨r, hr, hr5⟩ : ∃ r : Nat, c.tmod 5 = (r : Int) ∧ r < 5 := ⟨(c % 5).toNat, by rw [Int.tmod_eq_emod_of_nonneg hc0]; omega, by omega⟩
  obtain ⟨N, hN⟩ : ∃ N : Nat, N = 16382 + r := ⟨_, rfl⟩
  have w1 : IntKind.i64.wrap (r : Int) = r := wrap_i64 (by omega) (by omega)
  have w2 : IntKind.i64.wrap (16382 + (r : Int)) = ((N : Nat) : Int) := by rw [wrap_i64 (by omega) (by omega)]; omega
  have w3 : IntKind.i64.wrap (((N : Nat) : Int) - 1) = ((N - 1 : Nat) : Int) := by rw [wrap_i64 (by omega) (by omega)]; omega
  obtain ⟨f, hf⟩ : ∃ f : Nat → List V, f = fun j => List.replicate j (V.d (.lit (.int .u8 32))) ++ List.replicate (N - j) (V.d (.lit (.int .u8 0))) := ⟨_, rfl⟩
  have f0 : List.replicate N (V.d (.lit (.int .u8 0))) = f 0 := by rw [hf]; simp
  have flen : ∀ j, j ≤ N → (f j).length = N := fun j hj => by rw [hf]; simp; omega
  have fund : ∀ j, boxesBelow [f j].length [f j] = true := fun j => by
    have : V.unders 1 (f j) = true := unders_lits fun x hx => by
      rw [hf] at hx
      rcases List.mem_append.1 hx with hx | hx
      · exact ⟨_, (List.mem_replicate.1 hx).2⟩
      · exact ⟨_, (List.mem_replicate.1 hx).2⟩
    simp [boxesBelow, this]
  have fset : ∀ j, j < N → (f j).take j ++ V.d (.lit (.int .u8 32)) :: (f j).drop (j + 1) = f (j + 1) := fun j hj => by
    rw [hf]
    have := fill_set (V.d (.lit (.int .u8 32))) (V.d (.lit (.int .u8 0))) j (N - (j + 1))
    rw [show N - (j + 1) + 1 = N - j by omega] at this
    exact this
  obtain ⟨g, hg⟩ : ∃ g : List V, g = (f N).take (N - 1) ++ V.d (.lit (.int .u8 64)) :: (f N).drop (N - 1 + 1) := ⟨_, rfl⟩
  have hcbs : cbsV [g] (.bsl 0 0 N 1) = some (V.d (dstr (bs (List.replicate (N - 1) 32 ++ [64])))) := by
    have e1 : f N = List.replicate N (V.d (.lit (.int .u8 32))) := by rw [hf]; simp
    have e2 : g = List.replicate (N - 1) (V.d (.lit (.int .u8 32))) ++ [V.d (.lit (.int .u8 64))] := by
      rw [hg, e1, List.take_replicate, List.drop_replicate, show min (N - 1) N = N - 1 by omega, show N - (N - 1 + 1) = 0 by omega]; rfl
    have hgl : g.length = N := by rw [e2]; simp; omega
    simp only [cbsV, cellsV, List.getElem?_cons_zero, hgl, Nat.zero_add, Nat.le_refl, if_true, List.drop_zero, Option.bind_some]
    rw [List.take_of_length_le (by omega), e2, bytesB_rep, Option.map_some, List.map_append, List.map_replicate]
    rfl
  have htk := tokens_fun (List.replicate (N - 1) 32 ++ [64]) (by simp; omega)
  have hll : (List.replicate (N - 1) (32 : UInt8) ++ [64]).length = N := by simp; omega
  refine fun_code Tryd.func8 k8 rfl fun hb hw => ?_
  unfold c8
  simp -dsimp -implicitDefEqProofs only [aw, slots0, V.copy, V.lend, V.lend1, V.cells, V.boxable, over, bldV, boundV, rowsOf, plains, V.plain, Nat.reduceLeDiff, cond_true, cond_false, implies_true, eq_self, ne_eq, reduceIte, reduceCtorEq, Nat.reduceBEq, Nat.reduceLT, Nat.reduceEqDiff, Nat.reduceAdd, Nat.reduceSub, Nat.reduceMul, hr, w1, w2, Int.reduceEq]
  refine onT_intro (by omega) ?_
  rw [Int.toNat_natCast, f0]
  simp -dsimp -implicitDefEqProofs only [aw, slots0, V.copy, V.lend, V.lend1, V.cells, V.boxable, over, bldV, boundV, rowsOf, plains, V.plain, Nat.reduceLeDiff, cond_true, cond_false, implies_true, eq_self, ne_eq, reduceIte, reduceCtorEq, Nat.reduceBEq, Nat.reduceLT, Nat.reduceEqDiff, Nat.reduceAdd, Nat.reduceSub, Nat.reduceMul]
  refine awp_forK [3, 4] (R := fun (j : Nat) ρ σ' => ρ = [(3, .bsl 0 0 N 1), (4, vint .i64 j)] ∧ σ' = [f j]) N ⟨rfl, rfl⟩ ?_ _
  rintro j ρ' σ' hj ⟨rfl, rfl⟩
  have hfl := flen j hj
  by_cases hlt : j < N
  · have hfs := fset j hlt
    obtain ⟨q, hq⟩ : ∃ q, q = f (j + 1) := ⟨_, rfl⟩
    have hfu : boxesBelow [q].length [q] = true := by rw [hq]; exact fund (j + 1)
    rw [← hq] at hfs
    generalize f j = p at *
    have hjl : j + 1 ≤ N := hlt
    simp -dsimp -implicitDefEqProofs only [aw, slots0, V.copy, V.lend, V.lend1, V.cells, V.boxable, over, bldV, boundV, rowsOf, plains, V.plain, Nat.reduceLeDiff, cond_true, cond_false, implies_true, eq_self, ne_eq, reduceIte, reduceCtorEq, Nat.reduceBEq, Nat.reduceLT, Nat.reduceEqDiff, Nat.reduceAdd, Nat.reduceSub, Nat.reduceMul, Int.ofNat_lt, hlt, decide_true, Nat.mul_one, hfl, hjl, hfs, wrap_nat hlt (show N ≤ 9223372036854775807 by omega)]
    exact Nxt.same (Nat.zero_le _) hfu rfl ⟨rfl, by rw [hq]⟩
  · have hjn : j = N := by omega
    subst hjn
    have hN1 : j - 1 < j := by omega
    have hN2 : j - 1 + 1 ≤ j := by omega
    rw [hg] at hcbs
    generalize f j = p at *
    generalize hsr : List.replicate (j - 1) (32 : UInt8) ++ [64] = src at *
    by_cases hbig : 16384 < j
    · have hR : lexR src = .tup [.d (.sl []), .d (dint 0), .d (dint 2)] := by unfold lexR; rw [if_pos (by omega)]
      have hbig' : (16384 : Int) < ((j : Nat) : Int) := by omega
      rw [hR] at htk
      simp -dsimp -implicitDefEqProofs only [aw, slots0, V.copy, V.lend, V.lend1, V.cells, V.boxable, over, bldV, boundV, rowsOf, plains, V.plain, Nat.reduceLeDiff, cond_true, cond_false, implies_true, eq_self, ne_eq, reduceIte, reduceCtorEq, Nat.reduceBEq, Nat.reduceLT, Nat.reduceEqDiff, Nat.reduceAdd, Nat.reduceSub, Nat.reduceMul, Int.lt_irrefl, decide_false, Nat.mul_one, w3, hN1, hN2, hfl, hcbs]
      refine fun_ret (htk _) ?_
      simp -dsimp -implicitDefEqProofs only [aw, slots0, V.copy, V.lend, V.lend1, V.cells, V.boxable, over, bldV, boundV, rowsOf, plains, V.plain, Nat.reduceLeDiff, cond_true, cond_false, implies_true, eq_self, ne_eq, reduceIte, reduceCtorEq, Nat.reduceBEq, Nat.reduceLT, Nat.reduceEqDiff, Nat.reduceAdd, Nat.reduceSub, Nat.reduceMul, decide_eq_true hbig', Int.cast_ofNat_Int, Int.natCast_zero, Int.reduceEq, decide_true]
      refine fun_ret (awake_fun _) ?_
      simp -dsimp -implicitDefEqProofs only [aw, slots0, V.copy, V.lend, V.lend1, V.cells, V.boxable, over, bldV, boundV, rowsOf, plains, V.plain, Nat.reduceLeDiff, cond_true, cond_false, implies_true, eq_self, ne_eq, reduceIte, reduceCtorEq, Nat.reduceBEq, Nat.reduceLT, Nat.reduceEqDiff, Nat.reduceAdd, Nat.reduceSub, Nat.reduceMul]
      exact ⟨_, rfl, 0, Nat.zero_le _, rfl, rfl, rfl, rfl⟩
    · have hR : lexR src = .tup [.d (.sl [tokD ⟨4, 0, ⟨#[64]⟩, 1⟩]), .d (dint 0), .d (dint 0)] := by
        unfold lexR; rw [if_neg (by omega), ← hsr, toks_at]; rfl
      have hbig' : ¬ (16384 : Int) < ((j : Nat) : Int) := by omega
      rw [hR] at htk
      simp -dsimp -implicitDefEqProofs only [aw, slots0, V.copy, V.lend, V.lend1, V.cells, V.boxable, over, bldV, boundV, rowsOf, plains, V.plain, Nat.reduceLeDiff, cond_true, cond_false, implies_true, eq_self, ne_eq, reduceIte, reduceCtorEq, Nat.reduceBEq, Nat.reduceLT, Nat.reduceEqDiff, Nat.reduceAdd, Nat.reduceSub, Nat.reduceMul, Int.lt_irrefl, decide_false, Nat.mul_one, w3, hN1, hN2, hfl, hcbs]
      refine fun_ret (htk _) ?_
      simp -dsimp -implicitDefEqProofs only [aw, slots0, V.copy, V.lend, V.lend1, V.cells, V.boxable, over, bldV, boundV, rowsOf, plains, V.plain, Nat.reduceLeDiff, cond_true, cond_false, implies_true, eq_self, ne_eq, reduceIte, reduceCtorEq, Nat.reduceBEq, Nat.reduceLT, Nat.reduceEqDiff, Nat.reduceAdd, Nat.reduceSub, Nat.reduceMul, decide_eq_false hbig', Int.cast_ofNat_Int, Int.natCast_zero, Int.reduceEq, decide_true]
      refine fun_ret (awake_fun _) ?_
      simp -dsimp -implicitDefEqProofs only [aw, slots0, V.copy, V.lend, V.lend1, V.cells, V.boxable, over, bldV, boundV, rowsOf, plains, V.plain, Nat.reduceLeDiff, cond_true, cond_false, implies_true, eq_self, ne_eq, reduceIte, reduceCtorEq, Nat.reduceBEq, Nat.reduceLT, Nat.reduceEqDiff, Nat.reduceAdd, Nat.reduceSub, Nat.reduceMul]
      exact ⟨_, rfl, 0, Nat.zero_le _, rfl, rfl, rfl, rfl⟩
end Go.Proofs.YtdglhbelfjcffaaDoor
