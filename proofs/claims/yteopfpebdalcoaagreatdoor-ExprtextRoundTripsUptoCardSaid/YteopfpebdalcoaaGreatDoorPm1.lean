/-
  The parser of expressions: its next token.
-/
import Derived.Test.YteopfpebdalcoaaGreatDoorEt5
import Derived.Test.YteopfpebdalcoaaGreatDoorRef7c
set_option linter.unusedVariables false
set_option linter.unusedSimpArgs false
set_option linter.unusedSectionVars false
namespace Go.Proofs.YteopfpebdalcoaaGreatDoor
open Go.RowKit
def pb (ts : List Tok) (a : Nat) : List V := [.d (.sl (ts.map tokD)), .d (dint a)]
def faultV (e : Int) (a : Nat) : V := .iface 73 (.agg [.d (dint e), .d (dint a)])
theorem etvalid_fun (t : Tok) (h : t.text.size ≤ 1000) (σ : List (List V)) : Fun G 153 [tokA t] σ (RetV (vbool (vTok t)) σ) := by
  refine fun_code Tryz.func153 k153 rfl fun hb hw => ?_
  delta c153 oM oV kI kS kT kF
  have hj := lxjoin_fun [t] (by simp) (by simpa using h)
  unfold joinV at hj
  simp only [List.all_cons, List.all_nil, Bool.and_true] at hj
  simp -dsimp -implicitDefEqProofs only [aw, slots0, V.copy, V.lend, V.cells, V.boxable, rowsOf, plains, V.plain, Nat.reduceLeDiff, eq_self, reduceIte, reduceCtorEq, Nat.reduceBEq, Nat.reduceLT, Nat.reduceEqDiff, Nat.reduceAdd, tokA]
  refine fun_ret (by simpa only [List.map_cons, List.map_nil, tokD] using hj _) ?_
  cases hv : vTok t with
  | true =>
    simp -dsimp -implicitDefEqProofs only [aw, V.copy, eq_self, reduceIte, Nat.reduceBEq, Nat.reduceLT, Nat.reduceEqDiff]
    first | exact fin_ret hb rfl rfl List.take_length ⟨rfl, rfl⟩ | exact fin_ret hb rfl rfl List.take_left ⟨rfl, rfl⟩
  | false =>
    simp -dsimp -implicitDefEqProofs only [aw, V.copy, eq_self, reduceIte, Nat.reduceBEq, Nat.reduceLT, Nat.reduceEqDiff, Int.reduceEq, decide_false]
    first | exact fin_ret hb rfl rfl List.take_length ⟨rfl, rfl⟩ | exact fin_ret hb rfl rfl List.take_left ⟨rfl, rfl⟩
def nextV (ts : List Tok) (a : Nat) : V := match ts[a]? with
  | some t => if vTok t = true then .tup [tokA t, vbool true] else .tup [tok0, vbool false]
  | none => .tup [tok0, vbool false]
theorem next_fun (ts : List Tok) (a i : Nat) (hz : ∀ t, t ∈ ts → t.text.size ≤ 1000) (ha : a ≤ ts.length) (σ : List (List V)) (hi : σ[i]? = some (pb ts a)) :
    Fun G 139 [.ptr i 0] σ (RetV (nextV ts a) σ) := by
  refine fun_code Tryz.func139 k139 rfl fun hb hw => ?_
  delta c139 oM oV kI kS kT kF
  have hio := fun t => box_old hi t
  unfold pb at hio
  by_cases hlt : a < ts.length
  · have d1 : decide (((ts.length : Nat) : Int) ≤ ((a : Nat) : Int)) = false := by rw [decide_eq_false_iff_not]; omega
    have hn : nextV ts a = if vTok ts[a] = true then .tup [tokA ts[a], vbool true] else .tup [tok0, vbool false] := by unfold nextV; rw [List.getElem?_eq_getElem hlt]
    have hv := etvalid_fun ts[a] (hz _ (List.getElem_mem hlt))
    simp -dsimp -implicitDefEqProofs only [aw, slots0, V.copy, V.lend, V.lend1, Nat.reduceLeDiff, eq_self, reduceIte, reduceCtorEq, Nat.reduceBEq, Nat.reduceLT, Nat.reduceEqDiff, Nat.reduceAdd, hio, d1, List.getElem?_eq_getElem hlt, tokD]
    refine calm_ret (by simpa only [tokA] using hv _) ?_
    cases hvt : vTok ts[a] with
    | true =>
      rw [hn, if_pos hvt]
      simp -dsimp -implicitDefEqProofs only [aw, V.copy, V.cells, V.boxable, over, Nat.reduceLeDiff, cond_false, eq_self, reduceIte, reduceCtorEq, Nat.reduceBEq, Nat.reduceLT, Nat.reduceEqDiff, Nat.reduceAdd, hio, List.getElem?_eq_getElem hlt, tokD]
      exact fin_ret (v := .tup [tokA ts[a], vbool true]) hb (by simp [rs139, resV, resL, res1, tokA, aw, V.copy, V.lend, V.lend1, eq_self, reduceIte, Nat.reduceEqDiff, Nat.reduceAdd]) rfl List.take_left ⟨rfl, rfl⟩
    | false =>
      rw [hn, if_neg (by rw [hvt]; decide)]
      simp -dsimp -implicitDefEqProofs only [aw, V.copy, V.cells, V.boxable, over, bldV, Nat.reduceLeDiff, cond_false, eq_self, reduceIte, reduceCtorEq, Nat.reduceBEq, Nat.reduceLT, Nat.reduceEqDiff, Nat.reduceAdd]
      exact fin_ret (v := .tup [tok0, vbool false]) hb (by simp [rs139, resV, resL, res1, tok0, tokV, bs_nil, aw, V.copy, V.lend, V.lend1, eq_self, reduceIte, Nat.reduceEqDiff, Nat.reduceAdd]) rfl List.take_left ⟨rfl, rfl⟩
  · have d1 : decide (((ts.length : Nat) : Int) ≤ ((a : Nat) : Int)) = true := by rw [decide_eq_true_eq]; omega
    have hn : nextV ts a = .tup [tok0, vbool false] := by unfold nextV; rw [List.getElem?_eq_none (by omega)]
    rw [hn]
    simp -dsimp -implicitDefEqProofs only [aw, slots0, V.copy, V.cells, V.boxable, over, bldV, Nat.reduceLeDiff, eq_self, reduceIte, reduceCtorEq, Nat.reduceBEq, Nat.reduceLT, Nat.reduceEqDiff, Nat.reduceAdd, hio, d1]
    exact fin_ret (v := .tup [tok0, vbool false]) hb (by simp [rs139, resV, resL, res1, tok0, tokV, bs_nil, aw, V.copy, V.lend, V.lend1, eq_self, reduceIte, Nat.reduceEqDiff, Nat.reduceAdd]) rfl List.take_left ⟨rfl, rfl⟩
def seesB (m : ByteArray) (ts : List Tok) (a : Nat) : Bool := (acc m (ts.drop a)).isSome
theorem sees_lt {m : ByteArray} {ts : List Tok} {a : Nat} (h : a < ts.length) : seesB m ts a = (vTok ts[a] && ((decide (ts[a].kind = 4) || decide (ts[a].kind = 2)) && decide (ts[a].text = m))) := by
  unfold seesB
  rw [List.drop_eq_getElem_cons h]
  simp only [acc]
  rw [Bool.eq_iff_iff]
  split <;> simp_all
theorem sees_ge {m : ByteArray} {ts : List Tok} {a : Nat} (h : ¬ a < ts.length) : seesB m ts a = false := by
  unfold seesB
  rw [List.drop_eq_nil_of_le (by omega)]
  rfl
theorem sees_fun (m : ByteArray) (ts : List Tok) (a i : Nat) (hz : ∀ t, t ∈ ts → t.text.size ≤ 1000) (ha : a ≤ ts.length) (σ : List (List V)) (hi : σ[i]? = some (pb ts a)) :
    Fun G 117 [.ptr i 0, .d (dstr m)] σ (RetV (vbool (seesB m ts a)) σ) := by
  refine fun_code Tryz.func117 k117 rfl fun hb hw => ?_
  delta c117 oM oV kI kS kT kF
  have hN := next_fun ts a i hz ha σ hi
  simp -dsimp -implicitDefEqProofs only [aw, slots0, V.copy, V.lend, eq_self, reduceIte, reduceCtorEq, Nat.reduceBEq, Nat.reduceLT, Nat.reduceEqDiff]
  refine fun_ret hN ?_
  by_cases hlt : a < ts.length
  · have hn : nextV ts a = if vTok ts[a] = true then .tup [tokA ts[a], vbool true] else .tup [tok0, vbool false] := by unfold nextV; rw [List.getElem?_eq_getElem hlt]
    rw [hn, sees_lt hlt]
    generalize ts[a] = t
    cases hvt : vTok t with
    | false =>
      rw [if_neg (by decide)]
      simp -dsimp -implicitDefEqProofs only [aw, V.copy, V.cells, V.boxable, over, Nat.reduceLeDiff, eq_self, reduceIte, reduceCtorEq, Nat.reduceBEq, Nat.reduceLT, Nat.reduceEqDiff, Nat.reduceAdd, tok0, tokV]
      first | exact fin_ret hb rfl rfl List.take_length ⟨rfl, rfl⟩ | exact fin_ret hb rfl rfl List.take_left ⟨rfl, rfl⟩
    | true =>
      rw [if_pos rfl]
      by_cases h4 : t.kind = 4
      · simp -dsimp -implicitDefEqProofs only [aw, V.copy, V.cells, V.boxable, over, Nat.reduceLeDiff, cond_true, eq_self, reduceIte, reduceCtorEq, Nat.reduceBEq, Nat.reduceLT, Nat.reduceEqDiff, Nat.reduceAdd, tokA, decide_eq_true h4]
        first | exact fin_ret hb rfl rfl List.take_length ⟨rfl, rfl⟩ | exact fin_ret hb rfl rfl List.take_left ⟨rfl, rfl⟩
      · by_cases h2 : t.kind = 2
        · simp -dsimp -implicitDefEqProofs only [aw, V.copy, V.cells, V.boxable, over, Nat.reduceLeDiff, cond_true, cond_false, eq_self, reduceIte, reduceCtorEq, Nat.reduceBEq, Nat.reduceLT, Nat.reduceEqDiff, Nat.reduceAdd, tokA, decide_eq_false h4, decide_eq_true h2]
          first | exact fin_ret hb rfl rfl List.take_length ⟨rfl, rfl⟩ | exact fin_ret hb rfl rfl List.take_left ⟨rfl, rfl⟩
        · simp -dsimp -implicitDefEqProofs only [aw, V.copy, V.cells, V.boxable, over, Nat.reduceLeDiff, cond_true, cond_false, eq_self, reduceIte, reduceCtorEq, Nat.reduceBEq, Nat.reduceLT, Nat.reduceEqDiff, Nat.reduceAdd, tokA, decide_eq_false h4, decide_eq_false h2]
          first | exact fin_ret hb rfl rfl List.take_length ⟨rfl, rfl⟩ | exact fin_ret hb rfl rfl List.take_left ⟨rfl, rfl⟩
  · have hn : nextV ts a = .tup [tok0, vbool false] := by unfold nextV; rw [List.getElem?_eq_none (by omega)]
    rw [hn, sees_ge hlt]
    simp -dsimp -implicitDefEqProofs only [aw, V.copy, V.cells, V.boxable, over, Nat.reduceLeDiff, eq_self, reduceIte, reduceCtorEq, Nat.reduceBEq, Nat.reduceLT, Nat.reduceEqDiff, Nat.reduceAdd, tok0, tokV]
    first | exact fin_ret hb rfl rfl List.take_length ⟨rfl, rfl⟩ | exact fin_ret hb rfl rfl List.take_left ⟨rfl, rfl⟩
theorem set_pb {σ : List (List V)} {i : Nat} {ts : List Tok} {a : Nat} (hi : σ[i]? = some (pb ts a)) : σ.set i (pb ts a) = σ := by
  have hlt := (List.getElem?_eq_some_iff.1 hi).1
  rw [← (List.getElem?_eq_some_iff.1 hi).2]; exact List.set_getElem_self hlt
theorem accept_fun (m : ByteArray) (ts : List Tok) (a i : Nat) (hz : ∀ t, t ∈ ts → t.text.size ≤ 1000) (hn : ts.length ≤ 1000000) (ha : a ≤ ts.length) (σ : List (List V)) (hi : σ[i]? = some (pb ts a)) :
    Fun G 87 [.ptr i 0, .d (dstr m)] σ fun o σ' => o = .ret (vbool (seesB m ts a)) ∧ σ' = if seesB m ts a = true then σ.set i (pb ts (a + 1)) else σ := by
  have hlt := (List.getElem?_eq_some_iff.1 hi).1
  refine fun_code Tryz.func87 k87 rfl fun hb hw => ?_
  delta c87 oM oV kI kS kT kF
  have hS := sees_fun m ts a i hz ha σ hi
  simp -dsimp -implicitDefEqProofs only [aw, slots0, V.copy, V.lend, eq_self, reduceIte, reduceCtorEq, Nat.reduceBEq, Nat.reduceLT, Nat.reduceEqDiff]
  refine fun_ret hS ?_
  cases hs : seesB m ts a with
  | false =>
    simp -dsimp -implicitDefEqProofs only [aw, V.copy, eq_self, reduceIte, reduceCtorEq, Nat.reduceBEq, Nat.reduceLT, Nat.reduceEqDiff, if_false]
    exact fin_ret hb rfl rfl List.take_length ⟨rfl, rfl⟩
  | true =>
    unfold pb at hi
    simp -dsimp -implicitDefEqProofs only [aw, V.copy, V.cells, V.boxable, over, Nat.reduceLeDiff, eq_self, reduceIte, reduceCtorEq, Nat.reduceBEq, Nat.reduceLT, Nat.reduceEqDiff, Nat.reduceAdd, hi, wrap_i64 (show -9223372036854775808 ≤ ((a : Nat) : Int) + 1 by omega) (show ((a : Nat) : Int) + 1 ≤ 9223372036854775807 by omega), if_true]
    exact fin_set (τ := σ.set i (pb ts (a + 1))) (below_set hb rfl) rfl rfl (by rw [List.take_of_length_le (by rw [List.length_set]; exact Nat.le_refl _)]; rfl) ⟨rfl, rfl⟩
theorem fail_fun (ts : List Tok) (a i : Nat) (ha : a ≤ ts.length) (σ : List (List V)) (hi : σ[i]? = some (pb ts a)) :
    Fun G 118 [.ptr i 0] σ fun o σ' => o = .panic (faultV (if a < ts.length then 5 else 6) a) ∧ σ' = σ := by
  refine fun_code Tryz.func118 k118 rfl fun hb hw => ?_
  delta c118 oM oV kI kS kT kF
  unfold pb at hi
  by_cases hlt : a < ts.length
  · have d1 : decide (((ts.length : Nat) : Int) ≤ ((a : Nat) : Int)) = false := by rw [decide_eq_false_iff_not]; omega
    rw [if_pos hlt]
    simp -dsimp -implicitDefEqProofs only [aw, slots0, V.copy, V.cells, over, bldV, Nat.reduceLeDiff, eq_self, reduceIte, reduceCtorEq, Nat.reduceBEq, Nat.reduceLT, Nat.reduceEqDiff, Nat.reduceAdd, hi, d1]
    exact ⟨σ.length, Nat.le_refl _, by rw [List.take_length]; exact hb, rfl, rfl, List.take_length⟩
  · have hae : a = ts.length := by omega
    have d1 : decide (((ts.length : Nat) : Int) ≤ ((a : Nat) : Int)) = true := by rw [decide_eq_true_eq]; omega
    rw [if_neg hlt]
    simp -dsimp -implicitDefEqProofs only [aw, slots0, V.copy, V.cells, over, bldV, Nat.reduceLeDiff, eq_self, reduceIte, reduceCtorEq, Nat.reduceBEq, Nat.reduceLT, Nat.reduceEqDiff, Nat.reduceAdd, hi, d1]
    rw [hae]
    exact ⟨σ.length, Nat.le_refl _, by rw [List.take_length]; exact hb, rfl, rfl, List.take_length⟩
end Go.Proofs.YteopfpebdalcoaaGreatDoor
