/-
  The reference of sequences: zero, has, room, Size, shaped.
-/
import Derived.Test.YtbhippphcmkjnaaGreatDoorTCheck
set_option linter.unusedVariables false
set_option linter.unusedSimpArgs false
namespace Go.Proofs.YtbhippphcmkjnaaGreatDoor
open Go.RowKit

theorem rzero_fun (e : Ex) (σ : List (List V)) : Fun G 65 [vex e] σ (RetV (vbool (zeroB e)) σ) := by
  refine fun_code Tryz.func65 k65 (by simp only [vex_eq]; rfl) fun hb hw => ?_
  unfold c65 zeroB
  simp -dsimp -implicitDefEqProofs only [aw, slots0, V.copy, V.lend, V.lend1, V.cells, V.boxable, over, bldV, boundV, rowsOf, plains, V.plain, Nat.reduceLeDiff, cond_true, cond_false, implies_true, eq_self, ne_eq, reduceIte, reduceCtorEq, Nat.reduceBEq, Nat.reduceLT, Nat.reduceEqDiff, Nat.reduceAdd, Nat.reduceSub, Nat.reduceMul, vex_eq]
  refine iteT_intro (fun h1 => ?_) (fun h1 => ?_)
  · simp -dsimp -implicitDefEqProofs only [aw, slots0, V.copy, V.lend, V.lend1, V.cells, V.boxable, over, bldV, boundV, rowsOf, plains, V.plain, Nat.reduceLeDiff, cond_true, cond_false, implies_true, eq_self, ne_eq, reduceIte, reduceCtorEq, Nat.reduceBEq, Nat.reduceLT, Nat.reduceEqDiff, Nat.reduceAdd, Nat.reduceSub, Nat.reduceMul]
    refine iteT_intro (fun h2 => ?_) (fun h2 => ?_)
    · simp -dsimp -implicitDefEqProofs only [aw, slots0, V.copy, V.lend, V.lend1, V.cells, V.boxable, over, bldV, boundV, rowsOf, plains, V.plain, Nat.reduceLeDiff, cond_true, cond_false, implies_true, eq_self, ne_eq, reduceIte, reduceCtorEq, Nat.reduceBEq, Nat.reduceLT, Nat.reduceEqDiff, Nat.reduceAdd, Nat.reduceSub, Nat.reduceMul]
      refine iteT_intro (fun h3 => ?_) (fun h3 => ?_)
      · simp -dsimp -implicitDefEqProofs only [aw, slots0, V.copy, V.lend, V.lend1, V.cells, V.boxable, over, bldV, boundV, rowsOf, plains, V.plain, Nat.reduceLeDiff, cond_true, cond_false, implies_true, eq_self, ne_eq, reduceIte, reduceCtorEq, Nat.reduceBEq, Nat.reduceLT, Nat.reduceEqDiff, Nat.reduceAdd, Nat.reduceSub, Nat.reduceMul]
        exact fin_ret hb rfl rfl List.take_left ⟨by rw [h1, h2, h3]; simp; rfl, rfl⟩
      · simp -dsimp -implicitDefEqProofs only [aw, slots0, V.copy, V.lend, V.lend1, V.cells, V.boxable, over, bldV, boundV, rowsOf, plains, V.plain, Nat.reduceLeDiff, cond_true, cond_false, implies_true, eq_self, ne_eq, reduceIte, reduceCtorEq, Nat.reduceBEq, Nat.reduceLT, Nat.reduceEqDiff, Nat.reduceAdd, Nat.reduceSub, Nat.reduceMul]
        exact fin_ret hb rfl rfl List.take_left ⟨by rw [h1, h2, h3]; simp; rfl, rfl⟩
    · simp -dsimp -implicitDefEqProofs only [aw, slots0, V.copy, V.lend, V.lend1, V.cells, V.boxable, over, bldV, boundV, rowsOf, plains, V.plain, Nat.reduceLeDiff, cond_true, cond_false, implies_true, eq_self, ne_eq, reduceIte, reduceCtorEq, Nat.reduceBEq, Nat.reduceLT, Nat.reduceEqDiff, Nat.reduceAdd, Nat.reduceSub, Nat.reduceMul]
      exact fin_ret hb rfl rfl List.take_left ⟨by rw [h1, h2]; simp; rfl, rfl⟩
  · simp -dsimp -implicitDefEqProofs only [aw, slots0, V.copy, V.lend, V.lend1, V.cells, V.boxable, over, bldV, boundV, rowsOf, plains, V.plain, Nat.reduceLeDiff, cond_true, cond_false, implies_true, eq_self, ne_eq, reduceIte, reduceCtorEq, Nat.reduceBEq, Nat.reduceLT, Nat.reduceEqDiff, Nat.reduceAdd, Nat.reduceSub, Nat.reduceMul]
    exact fin_ret hb rfl rfl List.take_left ⟨by rw [h1]; simp; rfl, rfl⟩
theorem inB_drop {l : List ByteArray} {s : ByteArray} {j : Nat} (h : j < l.length) : inB s (l.drop j) = (decide (l[j] = s) || inB s (l.drop (j + 1))) := by
  rw [List.drop_eq_getElem_cons h]
  unfold inB
  rfl
theorem rhas_fun (l : List ByteArray) (s : ByteArray) (hl : l.length ≤ 1000000) (σ : List (List V)) : Fun G 35 [.d (dstrs l), .d (dstr s)] σ (RetV (vbool (inB s l)) σ) := by
  refine fun_code Tryz.func35 k35 rfl fun hb hw => ?_
  unfold c35
  simp -dsimp -implicitDefEqProofs only [aw, slots0, V.copy, V.lend, V.lend1, V.cells, V.boxable, over, bldV, boundV, rowsOf, plains, V.plain, Nat.reduceLeDiff, cond_true, cond_false, implies_true, eq_self, ne_eq, reduceIte, reduceCtorEq, Nat.reduceBEq, Nat.reduceLT, Nat.reduceEqDiff, Nat.reduceAdd, Nat.reduceSub, Nat.reduceMul, dstrs]
  refine awp_forK [0, 1, 5] (R := fun (j : Nat) ρ σ' => ρ = [(0, .d (.sl (l.map fun s => [dstr s]))), (1, .d (dstr s)), (5, vint .i64 j)] ∧ σ' = σ ∧ inB s l = inB s (l.drop j)) l.length ⟨rfl, rfl, by simp⟩ ?_ _
  rintro j ρ' σ' hj ⟨rfl, rfl, hr⟩
  by_cases hlt : j < l.length
  · rw [inB_drop hlt] at hr
    simp -dsimp -implicitDefEqProofs only [aw, slots0, V.copy, V.lend, V.lend1, V.cells, V.boxable, over, bldV, boundV, rowsOf, plains, V.plain, Nat.reduceLeDiff, cond_true, cond_false, implies_true, eq_self, ne_eq, reduceIte, reduceCtorEq, Nat.reduceBEq, Nat.reduceLT, Nat.reduceEqDiff, Nat.reduceAdd, Nat.reduceSub, Nat.reduceMul, Int.ofNat_lt, hlt, decide_true, List.getElem?_eq_getElem hlt]
    by_cases he : l[j] = s
    · rw [decide_eq_true he, Bool.true_or] at hr
      simp -dsimp -implicitDefEqProofs only [aw, slots0, V.copy, V.lend, V.lend1, V.cells, V.boxable, over, bldV, boundV, rowsOf, plains, V.plain, Nat.reduceLeDiff, cond_true, cond_false, implies_true, eq_self, ne_eq, reduceIte, reduceCtorEq, Nat.reduceBEq, Nat.reduceLT, Nat.reduceEqDiff, Nat.reduceAdd, Nat.reduceSub, Nat.reduceMul, decide_eq_true he]
      exact fin_ret hb rfl rfl List.take_length ⟨by rw [hr]; rfl, rfl⟩
    · rw [decide_eq_false he, Bool.false_or] at hr
      simp -dsimp -implicitDefEqProofs only [aw, slots0, V.copy, V.lend, V.lend1, V.cells, V.boxable, over, bldV, boundV, rowsOf, plains, V.plain, Nat.reduceLeDiff, cond_true, cond_false, implies_true, eq_self, ne_eq, reduceIte, reduceCtorEq, Nat.reduceBEq, Nat.reduceLT, Nat.reduceEqDiff, Nat.reduceAdd, Nat.reduceSub, Nat.reduceMul, decide_eq_false he, wrap_nat hlt (show l.length ≤ 9223372036854775807 by omega)]
      exact ⟨hlt, Nxt.same (Nat.le_refl _) hb rfl ⟨rfl, rfl, hr⟩⟩
  · simp -dsimp -implicitDefEqProofs only [aw, slots0, V.copy, V.lend, V.lend1, V.cells, V.boxable, over, bldV, boundV, rowsOf, plains, V.plain, Nat.reduceLeDiff, cond_true, cond_false, implies_true, eq_self, ne_eq, reduceIte, reduceCtorEq, Nat.reduceBEq, Nat.reduceLT, Nat.reduceEqDiff, Nat.reduceAdd, Nat.reduceSub, Nat.reduceMul, Int.ofNat_lt, hlt, decide_false]
    rw [List.drop_eq_nil_of_le (by omega)] at hr
    exact fin_ret hb rfl rfl List.take_length ⟨by rw [hr]; rfl, rfl⟩

/-- The nodes that are left; -1 if there are not so many, or if it is too deep. -/
def roomV (s : Ts) (n d : Int) : Int := if (tsz s : Int) ≤ n ∧ (tdp s : Int) ≤ d then n - tsz s else -1
abbrev szs (l : List Ts) : Nat := (l.map tsz).sum
theorem szs_take {l : List Ts} {j : Nat} (h : j < l.length) : szs (l.take (j + 1)) = szs (l.take j) + tsz l[j] := by
  unfold szs
  rw [List.take_add_one, List.getElem?_eq_getElem h, List.map_append, List.sum_append]
  show _ + (tsz l[j] + 0) = _
  omega
theorem szs_le (l : List Ts) (j : Nat) : szs (l.take j) ≤ szs l := by
  unfold szs
  conv => rhs; rw [← List.take_append_drop j l, List.map_append, List.sum_append]
  omega
theorem tdps_of {l : List Ts} {d : Nat} (h : ∀ a, a ∈ l → tdp a ≤ d) : tdps l ≤ d := by
  induction l with
  | nil => exact Nat.zero_le _
  | cons a r ih =>
    simp only [tdps]
    have := h a (by simp)
    have := ih fun x hx => h x (by simp [hx])
    omega
theorem room_fun (s : Ts) : ∀ (n d : Int), tbig s ≤ 1000000 → 0 ≤ n → n ≤ 1000000 → 0 ≤ d → d ≤ 1000000 → ∀ σ, Fun G 25 [vts s, .d (dint n), .d (dint d)] σ (RetV (.d (dint (roomV s n d))) σ) := by
  induction s using Ts.ind with
  | h s ih =>
  intro n d hs hn0 hn1 hd0 hd1 σ
  have hln := tbig_len s
  have hsz := tsz_eq s
  have hdp := tdp_eq s
  refine fun_code Tryz.func25 k25 (by simp only [vts_eq]; rfl) fun hb hw => ?_
  unfold c25
  have out : ∀ (r : Int) (l : List (List V)), roomV s n d = r → fin σ.length rs25 (RetV (.d (dint (roomV s n d))) σ) .ret [(6, .d (.lit (.int .i64 r)))] (σ ++ l) := fun r l h => by
    rw [h]; exact fin_ret hb rfl rfl List.take_left ⟨rfl, rfl⟩
  simp -dsimp -implicitDefEqProofs only [aw, slots0, V.copy, V.lend, V.lend1, V.cells, V.boxable, over, bldV, boundV, rowsOf, plains, V.plain, Nat.reduceLeDiff, cond_true, cond_false, implies_true, eq_self, ne_eq, reduceIte, reduceCtorEq, Nat.reduceBEq, Nat.reduceLT, Nat.reduceEqDiff, Nat.reduceAdd, Nat.reduceSub, Nat.reduceMul, vts_eq]
  by_cases h1 : n < 1
  · simp -dsimp -implicitDefEqProofs only [aw, slots0, V.copy, V.lend, V.lend1, V.cells, V.boxable, over, bldV, boundV, rowsOf, plains, V.plain, Nat.reduceLeDiff, cond_true, cond_false, implies_true, eq_self, ne_eq, reduceIte, reduceCtorEq, Nat.reduceBEq, Nat.reduceLT, Nat.reduceEqDiff, Nat.reduceAdd, Nat.reduceSub, Nat.reduceMul, decide_eq_true h1]
    exact out (-1) _ (by unfold roomV; rw [if_neg (by omega)])
  by_cases h2 : d < 1
  · simp -dsimp -implicitDefEqProofs only [aw, slots0, V.copy, V.lend, V.lend1, V.cells, V.boxable, over, bldV, boundV, rowsOf, plains, V.plain, Nat.reduceLeDiff, cond_true, cond_false, implies_true, eq_self, ne_eq, reduceIte, reduceCtorEq, Nat.reduceBEq, Nat.reduceLT, Nat.reduceEqDiff, Nat.reduceAdd, Nat.reduceSub, Nat.reduceMul, decide_eq_false h1, decide_eq_true h2]
    exact out (-1) _ (by unfold roomV; rw [if_neg (by omega)])
  have hw1 : IntKind.i64.wrap (n - 1) = n - 1 := wrap_i64 (by omega) (by omega)
  simp -dsimp -implicitDefEqProofs only [aw, slots0, V.copy, V.lend, V.lend1, V.cells, V.boxable, over, bldV, boundV, rowsOf, plains, V.plain, Nat.reduceLeDiff, cond_true, cond_false, implies_true, eq_self, ne_eq, reduceIte, reduceCtorEq, Nat.reduceBEq, Nat.reduceLT, Nat.reduceEqDiff, Nat.reduceAdd, Nat.reduceSub, Nat.reduceMul, decide_eq_false h1, decide_eq_false h2, hw1]
  refine awp_forK [1, 2, 3, 7] (R := fun (j : Nat) ρ σ' => ρ = [(1, .d (dint (n - 1 - szs (s.args.take j)))), (2, .d (dint d)), (3, .ptr σ.length 0), (7, vint .i64 j)] ∧ σ' = σ ++ [boxT s] ∧ (szs (s.args.take j) : Int) ≤ n - 1 ∧ ∀ a, a ∈ s.args.take j → (tdp a : Int) ≤ d - 1) s.args.length ⟨by simp [szs]; rfl, rfl, by simp [szs]; omega, by simp⟩ ?_ _
  rintro j ρ' σ' hj ⟨rfl, rfl, hle, hdl⟩
  by_cases hlt : j < s.args.length
  · have hw2 : IntKind.i64.wrap (d - 1) = d - 1 := wrap_i64 (by omega) (by omega)
    have ha := List.getElem_mem hlt
    have ht := szs_take hlt
    have hle2 := szs_le s.args (j + 1)
    simp -dsimp -implicitDefEqProofs only [aw, slots0, V.copy, V.lend, V.lend1, V.cells, V.boxable, over, bldV, boundV, rowsOf, plains, V.plain, Nat.reduceLeDiff, cond_true, cond_false, implies_true, eq_self, ne_eq, reduceIte, reduceCtorEq, Nat.reduceBEq, Nat.reduceLT, Nat.reduceEqDiff, Nat.reduceAdd, Nat.reduceSub, Nat.reduceMul, Int.ofNat_lt, hlt, decide_true, List.getElem?_eq_getElem hlt, dts_eq s.args[j], hw2]
    refine fun_ret (by simpa only [vts_eq] using ih s.args[j] ha (n - 1 - szs (s.args.take j)) (d - 1) (by have := tbig_arg ha; omega) (by omega) (by omega) (by omega) (by omega) _) ?_
    by_cases hc : (tsz s.args[j] : Int) ≤ n - 1 - szs (s.args.take j) ∧ (tdp s.args[j] : Int) ≤ d - 1
    · have hr : roomV s.args[j] (n - 1 - szs (s.args.take j)) (d - 1) = n - 1 - szs (s.args.take (j + 1)) := by
        unfold roomV; rw [if_pos hc, ht]; omega
      have h0 : ¬ n - 1 - (szs (s.args.take (j + 1)) : Int) < 0 := by omega
      rw [hr]
      simp -dsimp -implicitDefEqProofs only [aw, slots0, V.copy, V.lend, V.lend1, V.cells, V.boxable, over, bldV, boundV, rowsOf, plains, V.plain, Nat.reduceLeDiff, cond_true, cond_false, implies_true, eq_self, ne_eq, reduceIte, reduceCtorEq, Nat.reduceBEq, Nat.reduceLT, Nat.reduceEqDiff, Nat.reduceAdd, Nat.reduceSub, Nat.reduceMul, decide_eq_false h0, wrap_nat hlt (show s.args.length ≤ 9223372036854775807 by omega)]
      refine ⟨hlt, Nxt.same (by simp) (boxesBelow_app hb rfl) (by simp [slotsBelow, V.under]) ⟨rfl, rfl, by omega, fun a ha' => ?_⟩⟩
      rw [List.take_add_one, List.getElem?_eq_getElem hlt] at ha'
      rcases List.mem_append.1 ha' with e | e
      · exact hdl a e
      · have : a = s.args[j] := by simpa using e
        rw [this]; exact hc.2
    · have hr : roomV s.args[j] (n - 1 - szs (s.args.take j)) (d - 1) = -1 := by unfold roomV; rw [if_neg hc]
      rw [hr]
      simp -dsimp -implicitDefEqProofs only [aw, slots0, V.copy, V.lend, V.lend1, V.cells, V.boxable, over, bldV, boundV, rowsOf, plains, V.plain, Nat.reduceLeDiff, cond_true, cond_false, implies_true, eq_self, ne_eq, reduceIte, reduceCtorEq, Nat.reduceBEq, Nat.reduceLT, Nat.reduceEqDiff, Nat.reduceAdd, Nat.reduceSub, Nat.reduceMul, Int.reduceLT, decide_true]
      refine out (-1) _ ?_
      unfold roomV
      refine if_neg fun ⟨g1, g2⟩ => hc ⟨?_, ?_⟩
      · show (tsz s.args[j] : Int) ≤ n - 1 - szs (s.args.take j)
        have : szs (s.args.take (j + 1)) ≤ szs s.args := hle2
        have e : tsz s = 1 + szs s.args := hsz
        omega
      · have := tdps_mem ha
        omega
  · simp -dsimp -implicitDefEqProofs only [aw, slots0, V.copy, V.lend, V.lend1, V.cells, V.boxable, over, bldV, boundV, rowsOf, plains, V.plain, Nat.reduceLeDiff, cond_true, cond_false, implies_true, eq_self, ne_eq, reduceIte, reduceCtorEq, Nat.reduceBEq, Nat.reduceLT, Nat.reduceEqDiff, Nat.reduceAdd, Nat.reduceSub, Nat.reduceMul, Int.ofNat_lt, hlt, decide_false]
    rw [List.take_of_length_le (show s.args.length ≤ j by omega)] at hle hdl ⊢
    refine out _ _ ?_
    have e : tsz s = 1 + szs s.args := hsz
    have hdd : tdps s.args ≤ (d - 1).toNat := tdps_of fun a ha => by have := hdl a ha; omega
    unfold roomV
    rw [if_pos ⟨by omega, by omega⟩]; omega
theorem rtsize_fun (s : Ts) : tbig s ≤ 1000000 → ∀ σ, Fun G 12 [vts s] σ (RetV (.d (dint (tsz s))) σ) := by
  induction s using Ts.ind with
  | h s ih =>
  intro hs σ
  have hln := tbig_len s
  have hsz : tsz s = 1 + szs s.args := tsz_eq s
  have hle := tsz_le s
  refine fun_code Tryz.func12 k12 (by simp only [vts_eq]; rfl) fun hb hw => ?_
  unfold c12
  simp -dsimp -implicitDefEqProofs only [aw, slots0, V.copy, V.lend, V.lend1, V.cells, V.boxable, over, bldV, boundV, rowsOf, plains, V.plain, Nat.reduceLeDiff, cond_true, cond_false, implies_true, eq_self, ne_eq, reduceIte, reduceCtorEq, Nat.reduceBEq, Nat.reduceLT, Nat.reduceEqDiff, Nat.reduceAdd, Nat.reduceSub, Nat.reduceMul, vts_eq]
  refine awp_forK [1, 3, 4] (R := fun (j : Nat) ρ σ' => ρ = [(1, .ptr σ.length 0), (3, .d (dint ((1 + szs (s.args.take j) : Nat) : Int))), (4, vint .i64 j)] ∧ σ' = σ ++ [boxT s]) s.args.length ⟨by simp [szs]; rfl, rfl⟩ ?_ _
  rintro j ρ' σ' hj ⟨rfl, rfl⟩
  by_cases hlt : j < s.args.length
  · have ha := List.getElem_mem hlt
    have ht := szs_take hlt
    have hle2 := szs_le s.args (j + 1)
    have hw1 : IntKind.i64.wrap (((1 + szs (s.args.take j) : Nat) : Int) + (tsz s.args[j] : Nat)) = ((1 + szs (s.args.take (j + 1)) : Nat) : Int) := by rw [wrap_i64 (by omega) (by omega), ht]; omega
    simp -dsimp -implicitDefEqProofs only [aw, slots0, V.copy, V.lend, V.lend1, V.cells, V.boxable, over, bldV, boundV, rowsOf, plains, V.plain, Nat.reduceLeDiff, cond_true, cond_false, implies_true, eq_self, ne_eq, reduceIte, reduceCtorEq, Nat.reduceBEq, Nat.reduceLT, Nat.reduceEqDiff, Nat.reduceAdd, Nat.reduceSub, Nat.reduceMul, Int.ofNat_lt, hlt, decide_true, List.getElem?_eq_getElem hlt, dts_eq s.args[j]]
    refine fun_ret (by simpa only [vts_eq] using ih s.args[j] ha (by have := tbig_arg ha; omega) _) ?_
    simp -dsimp -implicitDefEqProofs only [aw, slots0, V.copy, V.lend, V.lend1, V.cells, V.boxable, over, bldV, boundV, rowsOf, plains, V.plain, Nat.reduceLeDiff, cond_true, cond_false, implies_true, eq_self, ne_eq, reduceIte, reduceCtorEq, Nat.reduceBEq, Nat.reduceLT, Nat.reduceEqDiff, Nat.reduceAdd, Nat.reduceSub, Nat.reduceMul, hw1, wrap_nat hlt (show s.args.length ≤ 9223372036854775807 by omega)]
    exact ⟨hlt, Nxt.same (by simp) (boxesBelow_app hb rfl) (by simp [slotsBelow, V.under]) ⟨rfl, rfl⟩⟩
  · simp -dsimp -implicitDefEqProofs only [aw, slots0, V.copy, V.lend, V.lend1, V.cells, V.boxable, over, bldV, boundV, rowsOf, plains, V.plain, Nat.reduceLeDiff, cond_true, cond_false, implies_true, eq_self, ne_eq, reduceIte, reduceCtorEq, Nat.reduceBEq, Nat.reduceLT, Nat.reduceEqDiff, Nat.reduceAdd, Nat.reduceSub, Nat.reduceMul, Int.ofNat_lt, hlt, decide_false]
    rw [List.take_of_length_le (show s.args.length ≤ j by omega)]
    exact fin_ret hb rfl rfl List.take_left ⟨by rw [hsz]; rfl, rfl⟩
end Go.Proofs.YtbhippphcmkjnaaGreatDoor
