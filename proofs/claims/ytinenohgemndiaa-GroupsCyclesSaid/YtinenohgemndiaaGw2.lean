/-
  slices.Repeat of one number.
-/
import Derived.Test.YtinenohgemndiaaGw1
set_option linter.unusedVariables false
set_option linter.unusedSimpArgs false
set_option linter.unusedSectionVars false
namespace Go.Proofs.Ytinenohgemndiaa
open Go.RowKit
theorem u_and (a : Nat) (h : a ≤ 64) : IntKind.u64.wrap ((BitVec.ofInt IntKind.u64.bits (a : Int) &&& BitVec.ofInt IntKind.u64.bits 4294967295).toNat : Int) = a := by
  have H : ∀ n : Fin 65, IntKind.u64.wrap ((BitVec.ofInt IntKind.u64.bits ((n.val : Nat) : Int) &&& BitVec.ofInt IntKind.u64.bits 4294967295).toNat : Int) = ((n.val : Nat) : Int) := by decide
  exact H ⟨a, by omega⟩
theorem u_shr (a : Nat) (h : a ≤ 64) : Int.fdiv (a : Int) (2 ^ min (Int.toNat 32) IntKind.u64.bits) = 0 := by
  have H : ∀ n : Fin 65, Int.fdiv ((n.val : Nat) : Int) (2 ^ min (Int.toNat 32) IntKind.u64.bits) = 0 := by decide
  exact H ⟨a, by omega⟩
theorem u_wrap (a : Nat) (h : a ≤ 64) : IntKind.u64.wrap (a : Int) = a := by
  have H : ∀ n : Fin 65, IntKind.u64.wrap ((n.val : Nat) : Int) = ((n.val : Nat) : Int) := by decide
  exact H ⟨a, by omega⟩
theorem i_wrap (a : Nat) (h : a ≤ 64) : IntKind.i64.wrap (a : Int) = a := wrap_i64 (by omega) (by omega)
theorem mul64_fun (n : Nat) (hn : n ≤ 64) (σ : List (List V)) : Fun G 59 [.d (.lit (.int .u64 1)), .d (.lit (.int .u64 n))] σ (RetV (.tup [.d (.lit (.int .u64 0)), .d (.lit (.int .u64 n))]) σ) := by
  have a1 := u_and 1 (by omega)
  have a0 := u_and 0 (by omega)
  have an := u_and n hn
  have s1 := u_shr 1 (by omega)
  have s0 := u_shr 0 (by omega)
  have sn := u_shr n hn
  have w0 := u_wrap 0 (by omega)
  have wn := u_wrap n hn
  simp only [Int.natCast_zero, Int.natCast_one, Int.cast_ofNat_Int] at a1 a0 s1 s0 w0
  refine fun_code Try.func59 k59 rfl fun hb hw => ?_
  unfold c59
  simp -dsimp -implicitDefEqProofs only [aw, slots0, V.copy, V.lend, V.lend1, V.cells, V.boxable, over, bldV, boundV, rowsOf, plains, V.plain, Nat.reduceLeDiff, cond_true, cond_false, implies_true, eq_self, ne_eq, reduceIte, reduceCtorEq, Nat.reduceBEq, Nat.reduceLT, Nat.reduceEqDiff, Nat.reduceAdd, Nat.reduceSub, Nat.reduceMul, Int.reduceLT, if_false, a1, a0, an, s1, s0, sn, Int.one_mul, Int.zero_mul, Int.mul_zero, Int.zero_add, Int.add_zero, w0, wn]
  exact fin_ret hb (v := .tup _) rfl rfl List.take_length ⟨rfl, rfl⟩
theorem mul_fun (n : Nat) (hn : n ≤ 64) (σ : List (List V)) : Fun G 46 [.d (.lit (.int .u64 1)), .d (.lit (.int .u64 n))] σ (RetV (.tup [.d (.lit (.int .u64 0)), .d (.lit (.int .u64 n))]) σ) := by
  refine fun_code Try.func46 k46 rfl fun hb hw => ?_
  unfold c46
  simp -dsimp -implicitDefEqProofs only [aw, slots0, V.copy, V.lend, V.lend1, V.cells, V.boxable, over, bldV, boundV, rowsOf, plains, V.plain, Nat.reduceLeDiff, cond_true, cond_false, implies_true, eq_self, ne_eq, reduceIte, reduceCtorEq, Nat.reduceBEq, Nat.reduceLT, Nat.reduceEqDiff, Nat.reduceAdd, Nat.reduceSub, Nat.reduceMul]
  refine fun_ret (mul64_fun n hn _) ?_
  simp -dsimp -implicitDefEqProofs only [aw, slots0, V.copy, V.lend, V.lend1, V.cells, V.boxable, over, bldV, boundV, rowsOf, plains, V.plain, Nat.reduceLeDiff, cond_true, cond_false, implies_true, eq_self, ne_eq, reduceIte, reduceCtorEq, Nat.reduceBEq, Nat.reduceLT, Nat.reduceEqDiff, Nat.reduceAdd, Nat.reduceSub, Nat.reduceMul]
  exact fin_ret hb (v := .tup _) rfl rfl List.take_length ⟨rfl, rfl⟩
abbrev vit (L : List Int) : List V := L.map fun x => V.d (dint x)
def RepQ (σ : List (List V)) (n : Nat) : Out → List (List V) → Prop := fun o σ' => o = .ret (.bsl σ.length 0 n 1) ∧ σ' = σ ++ [vit (List.replicate n (-1))]
def rep1 (n c : Nat) : List Int := List.replicate c (-1) ++ List.replicate (n - c) 0
theorem rep1_copy {n c : Nat} (h1 : 1 ≤ c) (h2 : c < n) : over (vit (rep1 n c)) c (List.take (min (n - c) c) (vit (List.replicate c (-1)))) = vit (rep1 n (c + min (n - c) c)) := by
  have hm : min (n - c) c ≤ c := Nat.min_le_right _ _
  have hm2 : c + min (n - c) c ≤ n := by omega
  generalize min (n - c) c = m at *
  have e1 : (vit (rep1 n c)).take c = vit (List.replicate c (-1)) := by unfold rep1 vit; rw [List.map_append, List.take_left' (by simp)]
  have e2 : List.take m (vit (List.replicate c (-1))) = vit (List.replicate m (-1)) := by unfold vit; rw [← List.map_take, List.take_replicate, Nat.min_eq_left hm]
  have e3 : (vit (rep1 n c)).drop (c + m) = vit (List.replicate (n - (c + m)) 0) := by
    unfold rep1 vit
    rw [List.map_append, List.drop_append, List.drop_eq_nil_of_le (by simp), List.nil_append, List.length_map, List.length_replicate, ← List.map_drop, List.drop_replicate]
    congr 2; omega
  unfold over
  rw [e2, e1, show (vit (List.replicate m (-1))).length = m by simp, e3]
  unfold rep1
  rw [← List.replicate_append_replicate]
  simp [vit]
theorem repeat_fun (n : Nat) (hn : n ≤ 64) (h0 : 0 < n) (σ : List (List V)) : Fun G 42 [.d (.sl [[dint (-1)]]), .d (dint n)] σ (RepQ σ n) := by
  have u1 := u_wrap 1 (by omega)
  have un := u_wrap n hn
  have jn := i_wrap n hn
  simp only [Int.natCast_one, Int.cast_ofNat_Int] at u1
  have hng : ¬ ((n : Nat) : Int) < 0 := by omega
  have hng2 : ¬ ((n : Nat) : Int) > 9223372036854775807 := by omega
  refine fun_code Try.func42 k42 rfl fun hb hw => ?_
  unfold c42
  simp -dsimp -implicitDefEqProofs only [aw, slots0, V.copy, V.lend, V.lend1, V.cells, V.boxable, over, bldV, boundV, rowsOf, plains, V.plain, Nat.reduceLeDiff, cond_true, cond_false, implies_true, eq_self, ne_eq, reduceIte, reduceCtorEq, Nat.reduceBEq, Nat.reduceLT, Nat.reduceEqDiff, Nat.reduceAdd, Nat.reduceSub, Nat.reduceMul, hng, decide_false, List.length_cons, List.length_nil, u1, un]
  refine fun_ret (mul_fun n hn _) ?_
  have hi1 : (0 : Int) ≤ ((n : Nat) : Int) ∧ ((n : Nat) : Int) * ((8 : Nat) : Int) ≤ 140737488355328 := by omega
  have hfl : [[dint (-1)]].flatten = [dint (-1)] := rfl
  have hmin : min n 1 = 1 := by omega
  have hst : V.d (dint (-1)) :: List.drop 1 (List.replicate n (V.d (D.lit (Value.int IntKind.i64 0)))) = vit (rep1 n 1) := by
    obtain ⟨m, rfl⟩ : ∃ m, n = m + 1 := ⟨n - 1, by omega⟩
    simp [over, rep1, vit, List.replicate_succ]
  simp -dsimp -implicitDefEqProofs only [aw, slots0, V.copy, V.lend, V.lend1, V.cells, V.boxable, over, bldV, boundV, rowsOf, plains, V.plain, Nat.reduceLeDiff, cond_true, cond_false, implies_true, eq_self, ne_eq, reduceIte, reduceCtorEq, Nat.reduceBEq, Nat.reduceLT, Nat.reduceEqDiff, Nat.reduceAdd, Nat.reduceSub, Nat.reduceMul, decide_false, hng2, Int.reduceLT, jn, hi1, Int.toNat_natCast, hfl, List.map_cons, List.map_nil, List.length_cons, List.length_nil, List.length_replicate, hmin, Nat.le_refl, hst]
  refine awp_forK [7, 8] (fun (j : Nat) ρ σ' => ∃ c, j + 1 ≤ c ∧ c ≤ n ∧ ρ = [(7, .bsl σ.length 0 n 1), (8, vint .i64 c)] ∧ σ' = σ ++ [vit (rep1 n c)]) n ?_ ?_ _
  · exact ⟨1, Nat.le_refl _, h0, rfl, rfl⟩
  rintro j ρ' σ' hj ⟨c, hc1, hc2, rfl, rfl⟩
  have hc1' : 1 ≤ c := by omega
  by_cases hlt : c < n
  · have hs1 : subV false 1 (V.bsl σ.length 0 n 1) (some (vint IntKind.i64 (c : Nat))) none = some (.bsl σ.length c (n - c) 1) := by
      simp only [subV, boundV]
      simp; omega
    have hs2 : subV false 1 (V.bsl σ.length 0 n 1) none (some (vint IntKind.i64 (c : Nat))) = some (.bsl σ.length 0 c 1) := by
      simp only [subV, boundV]
      simp; omega
    have hrl : (rep1 n c).length = n := by simp [rep1]; omega
    have hvl : (vit (rep1 n c)).length = n := by rw [List.length_map]; exact hrl
    have hnm : noMap (vit (rep1 n c)) = true := noMap_of fun c hc st kv e => by obtain ⟨x, -, rfl⟩ := List.mem_map.1 hc; cases e
    have htk : List.map V.copy (List.take c (vit (rep1 n c))) = vit (List.replicate c (-1)) := by
      unfold rep1 vit
      rw [List.map_append, List.take_left' (by simp), List.map_map]; rfl
    have hl2 : (vit (List.replicate c (-1))).length = c := by simp
    have hcn : c + (n - c) ≤ n := by omega
    have hcp := rep1_copy (n := n) hc1' hlt
    have hwr : IntKind.i64.wrap ((c : Int) + ((min (n - c) c : Nat) : Int)) = ((c + min (n - c) c : Nat) : Int) := by
      have : min (n - c) c ≤ n := by omega
      rw [wrap_i64 (by omega) (by omega)]; omega
    simp -dsimp -implicitDefEqProofs only [aw, slots0, V.copy, V.lend, V.lend1, V.cells, V.boxable, over, bldV, boundV, rowsOf, plains, V.plain, Nat.reduceLeDiff, cond_true, cond_false, implies_true, eq_self, ne_eq, reduceIte, reduceCtorEq, Nat.reduceBEq, Nat.reduceLT, Nat.reduceEqDiff, Nat.reduceAdd, Nat.reduceSub, Nat.reduceMul, Int.ofNat_lt, hlt, decide_true, hs1, hs2, hrl, hvl, hnm, htk, hl2, hcn, hc2, hcp, hwr]
    unfold over at hcp
    rw [List.append_assoc] at hcp
    rw [hcp]
    have hm : 1 ≤ min (n - c) c := by omega
    have hm2 : min (n - c) c ≤ n - c := Nat.min_le_left _ _
    refine ⟨by omega, Nxt.same (by simp) (bb_push hb _ fun x hx => by
      rw [List.mem_singleton.1 hx]; exact V.unders_of fun i hi => by rw [List.getElem_map]; rfl) (by simp [slotsBelow, V.under]) ⟨c + min (n - c) c, by omega, by omega, rfl, rfl⟩⟩
  · have e : c = n := by omega
    subst e
    simp -dsimp -implicitDefEqProofs only [aw, slots0, V.copy, V.lend, V.lend1, V.cells, V.boxable, over, bldV, boundV, rowsOf, plains, V.plain, Nat.reduceLeDiff, cond_true, cond_false, implies_true, eq_self, ne_eq, reduceIte, reduceCtorEq, Nat.reduceBEq, Nat.reduceLT, Nat.reduceEqDiff, Nat.reduceAdd, Nat.reduceSub, Nat.reduceMul, Int.ofNat_lt, Nat.lt_irrefl, decide_false]
    have hbb : boxesBelow (σ ++ [vit (rep1 c c)]).length (σ ++ [vit (rep1 c c)]) = true := bb_push hb _ fun x hx => by
      rw [List.mem_singleton.1 hx]; exact V.unders_of fun i hi => by rw [List.getElem_map]; rfl
    exact ⟨_, _, .refl _ _ _, .bsl σ.length 0 c 1, rfl, (σ ++ [vit (rep1 c c)]).length, by simp, by rw [List.take_length]; exact hbb, by simp [V.under], by rw [List.take_length]; exact ⟨rfl, by simp [rep1]⟩⟩
end Go.Proofs.Ytinenohgemndiaa
