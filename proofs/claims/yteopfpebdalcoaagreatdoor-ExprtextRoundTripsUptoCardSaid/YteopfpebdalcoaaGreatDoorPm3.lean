/-
  The parser of expressions: nodes, binary operators.
-/
import Derived.Test.YteopfpebdalcoaaGreatDoorPm2
set_option linter.unusedVariables false
set_option linter.unusedSimpArgs false
set_option linter.unusedSectionVars false
namespace Go.Proofs.YteopfpebdalcoaaGreatDoor
open Go.RowKit
theorem node_fun (o : Int) (l : List Ex) (σ : List (List V)) : Fun G 89 [.d (dint o), .d (.sl (l.map dex))] σ (RetV (vex (nodeE o l)) σ) := by
  refine fun_code Tryz.func89 k89 rfl fun hb hw => ?_
  delta c89 oM oV kI kS kT kF
  simp -dsimp -implicitDefEqProofs only [aw, slots0, V.copy, V.cells, V.boxable, over, bldV, Nat.reduceLeDiff, eq_self, reduceIte, reduceCtorEq, Nat.reduceBEq, Nat.reduceLT, Nat.reduceEqDiff, Nat.reduceAdd]
  exact fin_ret (v := vex (nodeE o l)) hb (by rw [vex_eq]; simp [rs89, resV, res1, nodeE, mk_op, mk_num, mk_name, mk_args, aw, V.copy, V.lend, V.lend1, eq_self, reduceIte, Nat.reduceAdd]) (by rw [vex_eq]; rfl) List.take_left ⟨rfl, rfl⟩
def zb : V := .agg [.d (dstr ⟨#[]⟩), .d (dint 0), .d (dint 0)]
def findB (l : List (ByteArray × Int × Nat)) (k : Nat) (ts : List Tok) (a : Nat) : Option (ByteArray × Int × Nat) := l.find? fun b => decide (b.2.2 = k) && seesB b.1 ts a
theorem acc_sees {m : ByteArray} {ts : List Tok} {a : Nat} : acc m (ts.drop a) = if seesB m ts a = true then some (ts.drop (a + 1)) else none := by
  by_cases h : a < ts.length
  · unfold seesB
    rw [List.drop_eq_getElem_cons h]
    simp only [acc]
    split <;> simp
  · rw [sees_ge h, List.drop_eq_nil_of_le (by omega)]; rfl
theorem operL_find (k : Nat) (ts : List Tok) (a : Nat) : ∀ l, operL l k (ts.drop a) = (findB l k ts a).map fun b => (b.2.1, ts.drop (a + 1))
  | [] => rfl
  | b :: l => by
    have ih := operL_find k ts a l
    unfold findB at ih ⊢
    simp only [operL, acc_sees, List.find?_cons]
    by_cases hk : b.2.2 = k
    · rw [if_pos hk]
      by_cases hs : seesB b.1 ts a = true
      · simp [hk, hs]
      · simp only [hs, hk, decide_true, Bool.true_and]
        simpa using ih
    · rw [if_neg hk]
      simp only [hk, decide_false, Bool.false_and]
      exact ih
def operV (ts : List Tok) (a : Nat) (k : Nat) : V := match findB binTab k ts a with
  | some b => .tup [.agg [.d (dstr b.1), .d (dint b.2.1), .d (dint b.2.2)], vbool false, vbool true]
  | none => if k = 9 ∧ seesB (mark1 62) ts a = true then .tup [.agg [.d (dstr ⟨#[]⟩), .d (dint 17), .d (dint 0)], vbool true, vbool true]
    else if k = 9 ∧ seesB (mark2 62 61) ts a = true then .tup [.agg [.d (dstr ⟨#[]⟩), .d (dint 18), .d (dint 0)], vbool true, vbool true]
    else .tup [zb, vbool false, vbool false]
def operB9 (ts : List Tok) (a : Nat) (k : Nat) : Bool := (findB binTab k ts a).isSome || (decide (k = 9) && (seesB (mark1 62) ts a || seesB (mark2 62 61) ts a))
set_option maxHeartbeats 1000000 in
theorem operator_fun (k : Nat) (hk : k ≤ 100) (ts : List Tok) (a i : Nat) (hz : ∀ t, t ∈ ts → t.text.size ≤ 1000) (hn : ts.length ≤ 1000000) (ha : a ≤ ts.length) (σ : List (List V)) (hi : σ[i]? = some (pb ts a)) :
    Fun G 138 [.ptr i 0, .d (dint k)] σ fun o σ' => o = .ret (operV ts a k) ∧ σ' = if operB9 ts a k = true then σ.set i (pb ts (a + 1)) else σ := by
  have hlt := (List.getElem?_eq_some_iff.1 hi).1
  refine fun_code Tryz.func138 k138 rfl fun hb hw => ?_
  delta c138 oM oV kI kS kT kF
  have hA := fun m l => accept_fun m ts a i hz hn ha (σ ++ l) (box_old hi l)
  have hso := fun l x => set_old hi l x
  obtain ⟨σ1, hs1⟩ : ∃ x, x = σ.set i (pb ts (a + 1)) := ⟨_, rfl⟩
  have hl1 : σ1.length = σ.length := by rw [hs1, List.length_set]
  have hb1 : boxesBelow σ1.length σ1 = true := by rw [hl1, hs1]; exact pb_below hb i ts _
  have h15 : binTab.length ≤ 100 := by decide
  have fin1 : ∀ (v : V) (ρ : Slots) (l : List (List V)), operV ts a k = v → operB9 ts a k = true → resV (σ1 ++ l) ρ rs138 = some v → V.under σ1.length v = true → fin σ1.length rs138 (fun o σ' => o = .ret (operV ts a k) ∧ σ' = if operB9 ts a k = true then σ1 else σ) .ret ρ (σ1 ++ l) := fun v ρ l e1 e2 e3 e4 =>
    fin_set (τ := σ1) hb1 e3 e4 List.take_left ⟨by rw [e1], by rw [e2, if_pos rfl]⟩
  simp -dsimp -implicitDefEqProofs only [aw, slots0, V.copy, V.lend, eq_self, reduceIte, reduceCtorEq, Nat.reduceBEq, Nat.reduceLT, Nat.reduceEqDiff]
  refine fun_ret (operators_fun _) ?_
  generalize hl : binTab = l at *
  simp -dsimp -implicitDefEqProofs only [aw, V.copy, eq_self, reduceIte, reduceCtorEq, Nat.reduceBEq, Nat.reduceLT, Nat.reduceEqDiff, opRows]
  refine awp_forK [0, 1, 4, 9, 10, 11] (R := fun (j : Nat) ρ σ' => ρ = [(0, .ptr i 0), (1, .d (dint k)), (4, .ptr σ.length 0), (9, .d (.sl (opRows l))), (10, vint .i64 l.length), (11, vint .i64 j)] ∧ σ' = σ ++ [[.d (dstr ⟨#[]⟩), .d (dint 0), .d (dint 0)]] ∧ findB l k ts a = findB (l.drop j) k ts a) l.length ⟨rfl, rfl, rfl⟩ ?_ _
  rintro j ρ' σ' hj ⟨rfl, rfl, hr⟩
  by_cases hlj : j < l.length
  · have hd : findB (l.drop j) k ts a = if l[j].2.2 = k ∧ seesB l[j].1 ts a = true then some l[j] else findB (l.drop (j + 1)) k ts a := by
      rw [List.drop_eq_getElem_cons hlj]
      unfold findB
      rw [List.find?_cons]
      by_cases h1 : l[j].2.2 = k <;> by_cases h2 : seesB l[j].1 ts a = true <;> simp [h1, h2]
    have next : findB (l.drop j) k ts a = findB (l.drop (j + 1)) k ts a → j < l.length ∧ Nxt σ.length (fun ρ σ' => ρ = [(0, V.ptr i 0), (1, .d (dint k)), (4, .ptr σ.length 0), (9, .d (.sl (opRows l))), (10, vint .i64 l.length), (11, vint .i64 ((j + 1 : Nat) : Int))] ∧ σ' = σ ++ [[.d (dstr ⟨#[]⟩), .d (dint 0), .d (dint 0)]] ∧ findB l k ts a = findB (l.drop (j + 1)) k ts a) [(0, V.ptr i 0), (1, .d (dint k)), (4, .ptr σ.length 0), (9, .d (.sl (opRows l))), (10, vint .i64 l.length), (11, vint .i64 ((j + 1 : Nat) : Int))] (σ ++ [[.d (dstr ⟨#[]⟩), .d (dint 0), .d (dint 0)], [.d (dstr l[j].1), .d (dint l[j].2.1), .d (dint l[j].2.2)]]) .mk := fun e =>
      ⟨hlj, Nxt.to (σ ++ [[.d (dstr ⟨#[]⟩), .d (dint 0), .d (dint 0)]]) [[.d (dstr l[j].1), .d (dint l[j].2.1), .d (dint l[j].2.2)]] (by simp) (by simp) (boxesBelow_app hb rfl) (by simp [slotsBelow, V.under]; omega) ⟨rfl, rfl, by rw [hr, e]⟩⟩
    by_cases h1 : l[j].2.2 = k
    · have h1' : decide (((l[j].2.2 : Nat) : Int) = ((k : Nat) : Int)) = true := by rw [decide_eq_true_eq]; omega
      simp -dsimp -implicitDefEqProofs only [aw, V.copy, V.lend, V.cells, V.boxable, over, Nat.reduceLeDiff, eq_self, reduceIte, reduceCtorEq, Nat.reduceBEq, Nat.reduceLT, Nat.reduceEqDiff, Nat.reduceAdd, opRows, Int.ofNat_lt, hlj, decide_true, List.getElem?_eq_getElem hlj, h1']
      refine fun_set (hA _ _) ?_
      cases hs : seesB l[j].1 ts a with
      | true =>
        rw [if_pos ⟨h1, hs⟩] at hd
        rw [if_pos rfl, hso, ← hs1]
        rw [← hl1]
        simp -dsimp -implicitDefEqProofs only [aw, V.copy, V.cells, V.boxable, over, Nat.reduceLeDiff, cond_true, eq_self, reduceIte, reduceCtorEq, Nat.reduceBEq, Nat.reduceLT, Nat.reduceEqDiff, Nat.reduceAdd]
        refine fin1 (.tup [.agg [.d (dstr l[j].1), .d (dint l[j].2.1), .d (dint l[j].2.2)], vbool false, vbool true]) _ _ ?_ ?_ ?_ ?_
        · unfold operV; rw [hl, hr, hd]
        · unfold operB9; rw [hl, hr, hd]; rfl
        · simp [rs138, resV, resL, res1, aw, V.copy, V.lend, V.lend1, eq_self, reduceIte, Nat.reduceEqDiff, Nat.reduceAdd]
        · rfl
      | false =>
        rw [if_neg (fun h => by rw [hs] at h; cases h.2)] at hd
        simp -dsimp -implicitDefEqProofs only [aw, V.copy, cond_true, eq_self, reduceIte, reduceCtorEq, Nat.reduceBEq, Nat.reduceLT, Nat.reduceEqDiff, if_false, wrap_nat hlj (show l.length ≤ 9223372036854775807 by omega)]
        exact next hd
    · have h1' : decide (((l[j].2.2 : Nat) : Int) = ((k : Nat) : Int)) = false := by rw [decide_eq_false_iff_not]; omega
      rw [if_neg (fun h => h1 h.1)] at hd
      simp -dsimp -implicitDefEqProofs only [aw, V.copy, V.cells, V.boxable, over, Nat.reduceLeDiff, eq_self, reduceIte, reduceCtorEq, Nat.reduceBEq, Nat.reduceLT, Nat.reduceEqDiff, Nat.reduceAdd, opRows, Int.ofNat_lt, hlj, decide_true, List.getElem?_eq_getElem hlj, h1', wrap_nat hlj (show l.length ≤ 9223372036854775807 by omega)]
      exact (next hd).2
  · rw [List.drop_eq_nil_of_le (by omega), show findB [] k ts a = none from rfl] at hr
    by_cases h9 : k = 9
    · subst h9
      simp -dsimp -implicitDefEqProofs only [aw, V.copy, V.lend, eq_self, reduceIte, reduceCtorEq, Nat.reduceBEq, Nat.reduceLT, Nat.reduceEqDiff, Int.ofNat_lt, hlj, decide_false, show (((9 : Nat) : Int)) = 9 from rfl, decide_true]
      refine fun_set (hA _ _) ?_
      have hf9 : findB binTab 9 ts a = none := by rw [hl]; exact hr
      cases hs : seesB ⟨#[62]⟩ ts a with
      | true =>
        have hs' : seesB (mark1 62) ts a = true := hs
        rw [if_pos rfl, hso, ← hs1]
        rw [← hl1]
        simp -dsimp -implicitDefEqProofs only [aw, V.copy, V.lend, V.cells, V.boxable, over, bldV, Nat.reduceLeDiff, eq_self, reduceIte, reduceCtorEq, Nat.reduceBEq, Nat.reduceLT, Nat.reduceEqDiff, Nat.reduceAdd]
        refine fin1 (.tup [.agg [.d (dstr ⟨#[]⟩), .d (dint 17), .d (dint 0)], vbool true, vbool true]) _ _ ?_ ?_ ?_ ?_
        · unfold operV; rw [hf9]; simp [hs']
        · unfold operB9; rw [hf9]; simp [hs']
        · simp [rs138, resV, resL, res1, aw, V.copy, V.lend, V.lend1, eq_self, reduceIte, Nat.reduceEqDiff, Nat.reduceAdd]
        · rfl
      | false =>
        have hs' : seesB (mark1 62) ts a = false := hs
        simp -dsimp -implicitDefEqProofs only [aw, V.copy, V.lend, eq_self, reduceIte, reduceCtorEq, Nat.reduceBEq, Nat.reduceLT, Nat.reduceEqDiff, if_false]
        refine fun_set (hA _ _) ?_
        cases hs2 : seesB ⟨#[62, 61]⟩ ts a with
        | true =>
          have hs2' : seesB (mark2 62 61) ts a = true := hs2
          rw [if_pos rfl, hso, ← hs1]
          rw [← hl1]
          simp -dsimp -implicitDefEqProofs only [aw, V.copy, V.cells, V.boxable, over, bldV, Nat.reduceLeDiff, eq_self, reduceIte, reduceCtorEq, Nat.reduceBEq, Nat.reduceLT, Nat.reduceEqDiff, Nat.reduceAdd]
          refine fin1 (.tup [.agg [.d (dstr ⟨#[]⟩), .d (dint 18), .d (dint 0)], vbool true, vbool true]) _ _ ?_ ?_ ?_ ?_
          · unfold operV; rw [hf9]; simp [hs', hs2']
          · unfold operB9; rw [hf9]; simp [hs', hs2']
          · simp [rs138, resV, resL, res1, aw, V.copy, V.lend, V.lend1, eq_self, reduceIte, Nat.reduceEqDiff, Nat.reduceAdd]
          · rfl
        | false =>
          have hs2' : seesB (mark2 62 61) ts a = false := hs2
          simp -dsimp -implicitDefEqProofs only [aw, V.copy, V.cells, V.boxable, over, bldV, Nat.reduceLeDiff, eq_self, reduceIte, reduceCtorEq, Nat.reduceBEq, Nat.reduceLT, Nat.reduceEqDiff, Nat.reduceAdd, if_false]
          exact fin_ret (v := .tup [zb, vbool false, vbool false]) hb (by simp [rs138, resV, resL, res1, zb, aw, V.copy, V.lend, V.lend1, eq_self, reduceIte, Nat.reduceEqDiff, Nat.reduceAdd]) rfl List.take_left ⟨by unfold operV; rw [hf9]; simp [hs', hs2'], by unfold operB9; rw [hf9]; simp [hs', hs2']⟩
    · have h9' : decide (((k : Nat) : Int) = 9) = false := by rw [decide_eq_false_iff_not]; omega
      simp -dsimp -implicitDefEqProofs only [aw, V.copy, V.lend, V.cells, V.boxable, over, bldV, Nat.reduceLeDiff, eq_self, reduceIte, reduceCtorEq, Nat.reduceBEq, Nat.reduceLT, Nat.reduceEqDiff, Nat.reduceAdd, Int.ofNat_lt, hlj, decide_false, h9']
      exact fin_ret (v := .tup [zb, vbool false, vbool false]) hb (by simp [rs138, resV, resL, res1, zb, aw, V.copy, V.lend, V.lend1, eq_self, reduceIte, Nat.reduceEqDiff, Nat.reduceAdd]) rfl List.take_left ⟨by unfold operV; rw [hl, hr]; simp [h9], by unfold operB9; rw [hl, hr]; simp [h9]⟩
end Go.Proofs.YteopfpebdalcoaaGreatDoor
